/-
  NARROWER THAN 'FOR EVERY INPUT', by the rows' own cells (each row's printed sentence says how): FnIndexNew: maps, laid · FnScorePlace: maps, laid · FnBoundTop: maps, laid · FnScoreTerm: maps, laid · FnScoreAnd: maps, laid · FnScoreLess: maps, laid · FnScoreOr: maps, laid · FnScoreTimes: maps, laid · FnScorePhrase: maps, laid · FnMatchOf: maps, laid · FnTopFew: maps, laid · FnTopTimes: maps, laid.
  DERIVED. THE GIVEN ROWS OF THIS SEAT. 12 by the template 'for every input the law returns true; each argument reads behind the call as it read before'; 0 by the template 'total and deterministic' (their statements: YtmkhlppjphodfaaGreatDoorTotals.lean).
  GIVEN WITH THE SEED: the statements are not yours to turn. If you find one false, say at which input.
  Laid BY PROGRAM, IN A SANDBOX (cutbox-rows.mjs): the forced cells as the released guide's own fill.sh prints them over the translation ae55515e6040acc3… (all of the seat's roots in one cut). By AI agents, Wed Nov 11 2026. No macro, syntax, notation, axiom, sorry.
-/
import Derived.Test.YtmkhlppjphodfaaGreatDoorChecked
import GoSem.Claim
import GoSem.ClaimJoined
import GoSem.ClaimMapViews
import Derived.JoinedTies
import Derived.KernelRfl
namespace Go.Proofs.YtmkhlppjphodfaaGreatDoor
/- THE CELL 'sum', in the pinned program and in every row, IS THE sha256 OF THE DUMP (.gsa) THAT YtmkhlppjphodfaaGreatDoorProg.lean LOADS. Nothing in Lean hashes anything: it is a label: what it is worth is what the hold of that sum in a sandbox is worth. -/
noncomputable def Tryz.pinned : Pinned := { name := "ytmkhlppjphodfaagreatdoor", sum := "ae55515e6040acc3e1ab2ff4fed3218855c63f6fbade30fba193144261736de2", checked := Tryz.checked }
namespace Rows
def none {H : Type} : Left H := { results := [], args := [] }

/- WHAT THE LISTED PACKAGE-LEVEL VARIABLES READ AS WHEN THE CALL BEGINS. Each datum BY PROGRAM (the guide's laid-datum.mjs) off the statement by which the dump's own 'gosem.cut.vars' lays the variable. In a bare row this is a premise. The card (YtmkhlppjphodfaaGreatDoorCards.lean) ties it to the program's text. -/
def laid_loop_example_fossick_impl_none {H : Type} : DataW H := .agg [.lit (.int .i64 0), .lit (.int .i64 1)]
def laid_loop_example_fossick_impl_shapes {H : Type} : DataW H := .map [(.int .i64 1, .agg [.lit (.bool false), .lit (.int .i64 0), .lit (.int .i64 0), .lit (.int .i64 0), .lit (.int .i64 0), .lit (.bool false), .lit (.int .i64 0), .lit (.int .i64 0)]), (.int .i64 2, .agg [.lit (.bool true), .lit (.int .i64 1), .lit (.int .i64 1), .lit (.int .i64 0), .lit (.int .i64 0), .lit (.bool false), .lit (.int .i64 0), .lit (.int .i64 0)]), (.int .i64 3, .agg [.lit (.bool true), .lit (.int .i64 2), .lit (.int .i64 4), .lit (.int .i64 0), .lit (.int .i64 5), .lit (.bool false), .lit (.int .i64 0), .lit (.int .i64 0)]), (.int .i64 4, .agg [.lit (.bool true), .lit (.int .i64 1), .lit (.int .i64 1), .lit (.int .i64 1), .lit (.int .i64 2), .lit (.bool false), .lit (.int .i64 0), .lit (.int .i64 0)]), (.int .i64 5, .agg [.lit (.bool true), .lit (.int .i64 1), .lit (.int .i64 1), .lit (.int .i64 0), .lit (.int .i64 0), .lit (.bool false), .lit (.int .i64 0), .lit (.int .i64 0)]), (.int .i64 6, .agg [.lit (.bool true), .lit (.int .i64 0), .lit (.int .i64 0), .lit (.int .i64 0), .lit (.int .i64 999999999), .lit (.bool true), .lit (.int .i64 0), .lit (.int .i64 0)]), (.int .i64 7, .agg [.lit (.bool false), .lit (.int .i64 0), .lit (.int .i64 0), .lit (.int .i64 0), .lit (.int .i64 0), .lit (.bool false), .lit (.int .i64 2), .lit (.int .i64 4)]), (.int .i64 8, .agg [.lit (.bool false), .lit (.int .i64 0), .lit (.int .i64 0), .lit (.int .i64 0), .lit (.int .i64 0), .lit (.bool false), .lit (.int .i64 2), .lit (.int .i64 4)]), (.int .i64 9, .agg [.lit (.bool false), .lit (.int .i64 0), .lit (.int .i64 0), .lit (.int .i64 0), .lit (.int .i64 0), .lit (.bool false), .lit (.int .i64 2), .lit (.int .i64 2)]), (.int .i64 10, .agg [.lit (.bool false), .lit (.int .i64 0), .lit (.int .i64 0), .lit (.int .i64 2), .lit (.int .i64 9), .lit (.bool false), .lit (.int .i64 1), .lit (.int .i64 1)])]

/-- 'laws.FnIndexNew': WHATEVER THE INPUT: true; the input reads as it did. -/
def fnIndexNewSpec : ChangeSpec := { name := "fnIndexNew", vars := ["loop.example/fossick/impl.shapes", "loop.example/fossick/impl.none"], fn := fun _ => fun
  | [d, g1, g2] => { results := [.lit (.bool true)], args := [d], vars := [g1, g2] }
  | _ => none }
def fnIndexNewRow : OpenClaim := { program := "ytmkhlppjphodfaagreatdoor", sum := "ae55515e6040acc3e1ab2ff4fed3218855c63f6fbade30fba193144261736de2", func := "loop.example/fossick/laws.FnIndexNew", spec := "fnIndexNew", inPlace := ["internal/abi.NoEscape", "internal/bytealg.MakeNoZero"], unfollowed := true, recurses := true, named := ["loop.example/fossick/impl.shapes", "loop.example/fossick/impl.none"], maps := true, apart := false, laid := [("loop.example/fossick/impl.none", laid_loop_example_fossick_impl_none), ("loop.example/fossick/impl.shapes", laid_loop_example_fossick_impl_shapes)] }
def FnIndexNewSaid : Prop := fnIndexNewRow.holds Tryz.pinned (OpenSpec.ofChange fnIndexNewSpec)

/-- ITS FALSE NEIGHBOUR: 'it returns false'. Refute it at one input. -/
def fnIndexNewWrong : ChangeSpec := { name := "fnIndexNew", vars := ["loop.example/fossick/impl.shapes", "loop.example/fossick/impl.none"], fn := fun _ => fun
  | [d, g1, g2] => { results := [.lit (.bool false)], args := [d], vars := [g1, g2] }
  | _ => none }
def FnIndexNewWrongFalsely : Prop := fnIndexNewRow.holds Tryz.pinned (OpenSpec.ofChange fnIndexNewWrong)

/-- 'laws.FnScorePlace': WHATEVER THE INPUT: true; the input reads as it did. -/
def fnScorePlaceSpec : ChangeSpec := { name := "fnScorePlace", vars := ["loop.example/fossick/impl.shapes", "loop.example/fossick/impl.none"], fn := fun _ => fun
  | [d1, d2, g1, g2] => { results := [.lit (.bool true)], args := [d1, d2], vars := [g1, g2] }
  | _ => none }
def fnScorePlaceRow : OpenClaim := { program := "ytmkhlppjphodfaagreatdoor", sum := "ae55515e6040acc3e1ab2ff4fed3218855c63f6fbade30fba193144261736de2", func := "loop.example/fossick/laws.FnScorePlace", spec := "fnScorePlace", inPlace := ["internal/abi.NoEscape", "internal/bytealg.MakeNoZero"], unfollowed := true, recurses := true, named := ["loop.example/fossick/impl.shapes", "loop.example/fossick/impl.none"], maps := true, apart := false, laid := [("loop.example/fossick/impl.none", laid_loop_example_fossick_impl_none), ("loop.example/fossick/impl.shapes", laid_loop_example_fossick_impl_shapes)] }
def FnScorePlaceSaid : Prop := fnScorePlaceRow.holds Tryz.pinned (OpenSpec.ofChange fnScorePlaceSpec)

/-- ITS FALSE NEIGHBOUR: 'it returns false'. Refute it at one input. -/
def fnScorePlaceWrong : ChangeSpec := { name := "fnScorePlace", vars := ["loop.example/fossick/impl.shapes", "loop.example/fossick/impl.none"], fn := fun _ => fun
  | [d1, d2, g1, g2] => { results := [.lit (.bool false)], args := [d1, d2], vars := [g1, g2] }
  | _ => none }
def FnScorePlaceWrongFalsely : Prop := fnScorePlaceRow.holds Tryz.pinned (OpenSpec.ofChange fnScorePlaceWrong)

/-- 'laws.FnBoundTop': WHATEVER THE INPUT: true; the input reads as it did. -/
def fnBoundTopSpec : ChangeSpec := { name := "fnBoundTop", vars := ["loop.example/fossick/impl.none", "loop.example/fossick/impl.shapes"], fn := fun _ => fun
  | [d, g1, g2] => { results := [.lit (.bool true)], args := [d], vars := [g1, g2] }
  | _ => none }
def fnBoundTopRow : OpenClaim := { program := "ytmkhlppjphodfaagreatdoor", sum := "ae55515e6040acc3e1ab2ff4fed3218855c63f6fbade30fba193144261736de2", func := "loop.example/fossick/laws.FnBoundTop", spec := "fnBoundTop", inPlace := ["internal/abi.NoEscape", "internal/bytealg.MakeNoZero"], unfollowed := true, recurses := true, named := ["loop.example/fossick/impl.none", "loop.example/fossick/impl.shapes"], maps := true, apart := false, laid := [("loop.example/fossick/impl.none", laid_loop_example_fossick_impl_none), ("loop.example/fossick/impl.shapes", laid_loop_example_fossick_impl_shapes)] }
def FnBoundTopSaid : Prop := fnBoundTopRow.holds Tryz.pinned (OpenSpec.ofChange fnBoundTopSpec)

/-- ITS FALSE NEIGHBOUR: 'it returns false'. Refute it at one input. -/
def fnBoundTopWrong : ChangeSpec := { name := "fnBoundTop", vars := ["loop.example/fossick/impl.none", "loop.example/fossick/impl.shapes"], fn := fun _ => fun
  | [d, g1, g2] => { results := [.lit (.bool false)], args := [d], vars := [g1, g2] }
  | _ => none }
def FnBoundTopWrongFalsely : Prop := fnBoundTopRow.holds Tryz.pinned (OpenSpec.ofChange fnBoundTopWrong)

/-- 'laws.FnScoreTerm': WHATEVER THE INPUT: true; the input reads as it did. -/
def fnScoreTermSpec : ChangeSpec := { name := "fnScoreTerm", vars := ["loop.example/fossick/impl.shapes", "loop.example/fossick/impl.none"], fn := fun _ => fun
  | [d, g1, g2] => { results := [.lit (.bool true)], args := [d], vars := [g1, g2] }
  | _ => none }
def fnScoreTermRow : OpenClaim := { program := "ytmkhlppjphodfaagreatdoor", sum := "ae55515e6040acc3e1ab2ff4fed3218855c63f6fbade30fba193144261736de2", func := "loop.example/fossick/laws.FnScoreTerm", spec := "fnScoreTerm", inPlace := ["internal/abi.NoEscape", "internal/bytealg.MakeNoZero"], unfollowed := true, recurses := true, named := ["loop.example/fossick/impl.shapes", "loop.example/fossick/impl.none"], maps := true, apart := false, laid := [("loop.example/fossick/impl.none", laid_loop_example_fossick_impl_none), ("loop.example/fossick/impl.shapes", laid_loop_example_fossick_impl_shapes)] }
def FnScoreTermSaid : Prop := fnScoreTermRow.holds Tryz.pinned (OpenSpec.ofChange fnScoreTermSpec)

/-- ITS FALSE NEIGHBOUR: 'it returns false'. Refute it at one input. -/
def fnScoreTermWrong : ChangeSpec := { name := "fnScoreTerm", vars := ["loop.example/fossick/impl.shapes", "loop.example/fossick/impl.none"], fn := fun _ => fun
  | [d, g1, g2] => { results := [.lit (.bool false)], args := [d], vars := [g1, g2] }
  | _ => none }
def FnScoreTermWrongFalsely : Prop := fnScoreTermRow.holds Tryz.pinned (OpenSpec.ofChange fnScoreTermWrong)

/-- 'laws.FnScoreAnd': WHATEVER THE INPUT: true; the input reads as it did. -/
def fnScoreAndSpec : ChangeSpec := { name := "fnScoreAnd", vars := ["loop.example/fossick/impl.shapes", "loop.example/fossick/impl.none"], fn := fun _ => fun
  | [d1, d2, g1, g2] => { results := [.lit (.bool true)], args := [d1, d2], vars := [g1, g2] }
  | _ => none }
def fnScoreAndRow : OpenClaim := { program := "ytmkhlppjphodfaagreatdoor", sum := "ae55515e6040acc3e1ab2ff4fed3218855c63f6fbade30fba193144261736de2", func := "loop.example/fossick/laws.FnScoreAnd", spec := "fnScoreAnd", inPlace := ["internal/abi.NoEscape", "internal/bytealg.MakeNoZero"], unfollowed := true, recurses := true, named := ["loop.example/fossick/impl.shapes", "loop.example/fossick/impl.none"], maps := true, apart := false, laid := [("loop.example/fossick/impl.none", laid_loop_example_fossick_impl_none), ("loop.example/fossick/impl.shapes", laid_loop_example_fossick_impl_shapes)] }
def FnScoreAndSaid : Prop := fnScoreAndRow.holds Tryz.pinned (OpenSpec.ofChange fnScoreAndSpec)

/-- ITS FALSE NEIGHBOUR: 'it returns false'. Refute it at one input. -/
def fnScoreAndWrong : ChangeSpec := { name := "fnScoreAnd", vars := ["loop.example/fossick/impl.shapes", "loop.example/fossick/impl.none"], fn := fun _ => fun
  | [d1, d2, g1, g2] => { results := [.lit (.bool false)], args := [d1, d2], vars := [g1, g2] }
  | _ => none }
def FnScoreAndWrongFalsely : Prop := fnScoreAndRow.holds Tryz.pinned (OpenSpec.ofChange fnScoreAndWrong)

/-- 'laws.FnScoreLess': WHATEVER THE INPUT: true; the input reads as it did. -/
def fnScoreLessSpec : ChangeSpec := { name := "fnScoreLess", vars := ["loop.example/fossick/impl.shapes", "loop.example/fossick/impl.none"], fn := fun _ => fun
  | [d1, d2, g1, g2] => { results := [.lit (.bool true)], args := [d1, d2], vars := [g1, g2] }
  | _ => none }
def fnScoreLessRow : OpenClaim := { program := "ytmkhlppjphodfaagreatdoor", sum := "ae55515e6040acc3e1ab2ff4fed3218855c63f6fbade30fba193144261736de2", func := "loop.example/fossick/laws.FnScoreLess", spec := "fnScoreLess", inPlace := ["internal/abi.NoEscape", "internal/bytealg.MakeNoZero"], unfollowed := true, recurses := true, named := ["loop.example/fossick/impl.shapes", "loop.example/fossick/impl.none"], maps := true, apart := false, laid := [("loop.example/fossick/impl.none", laid_loop_example_fossick_impl_none), ("loop.example/fossick/impl.shapes", laid_loop_example_fossick_impl_shapes)] }
def FnScoreLessSaid : Prop := fnScoreLessRow.holds Tryz.pinned (OpenSpec.ofChange fnScoreLessSpec)

/-- ITS FALSE NEIGHBOUR: 'it returns false'. Refute it at one input. -/
def fnScoreLessWrong : ChangeSpec := { name := "fnScoreLess", vars := ["loop.example/fossick/impl.shapes", "loop.example/fossick/impl.none"], fn := fun _ => fun
  | [d1, d2, g1, g2] => { results := [.lit (.bool false)], args := [d1, d2], vars := [g1, g2] }
  | _ => none }
def FnScoreLessWrongFalsely : Prop := fnScoreLessRow.holds Tryz.pinned (OpenSpec.ofChange fnScoreLessWrong)

/-- 'laws.FnScoreOr': WHATEVER THE INPUT: true; the input reads as it did. -/
def fnScoreOrSpec : ChangeSpec := { name := "fnScoreOr", vars := ["loop.example/fossick/impl.shapes", "loop.example/fossick/impl.none"], fn := fun _ => fun
  | [d1, d2, g1, g2] => { results := [.lit (.bool true)], args := [d1, d2], vars := [g1, g2] }
  | _ => none }
def fnScoreOrRow : OpenClaim := { program := "ytmkhlppjphodfaagreatdoor", sum := "ae55515e6040acc3e1ab2ff4fed3218855c63f6fbade30fba193144261736de2", func := "loop.example/fossick/laws.FnScoreOr", spec := "fnScoreOr", inPlace := ["internal/abi.NoEscape", "internal/bytealg.MakeNoZero"], unfollowed := true, recurses := true, named := ["loop.example/fossick/impl.shapes", "loop.example/fossick/impl.none"], maps := true, apart := false, laid := [("loop.example/fossick/impl.none", laid_loop_example_fossick_impl_none), ("loop.example/fossick/impl.shapes", laid_loop_example_fossick_impl_shapes)] }
def FnScoreOrSaid : Prop := fnScoreOrRow.holds Tryz.pinned (OpenSpec.ofChange fnScoreOrSpec)

/-- ITS FALSE NEIGHBOUR: 'it returns false'. Refute it at one input. -/
def fnScoreOrWrong : ChangeSpec := { name := "fnScoreOr", vars := ["loop.example/fossick/impl.shapes", "loop.example/fossick/impl.none"], fn := fun _ => fun
  | [d1, d2, g1, g2] => { results := [.lit (.bool false)], args := [d1, d2], vars := [g1, g2] }
  | _ => none }
def FnScoreOrWrongFalsely : Prop := fnScoreOrRow.holds Tryz.pinned (OpenSpec.ofChange fnScoreOrWrong)

/-- 'laws.FnScoreTimes': WHATEVER THE INPUT: true; the input reads as it did. -/
def fnScoreTimesSpec : ChangeSpec := { name := "fnScoreTimes", vars := ["loop.example/fossick/impl.shapes", "loop.example/fossick/impl.none"], fn := fun _ => fun
  | [d1, d2, g1, g2] => { results := [.lit (.bool true)], args := [d1, d2], vars := [g1, g2] }
  | _ => none }
def fnScoreTimesRow : OpenClaim := { program := "ytmkhlppjphodfaagreatdoor", sum := "ae55515e6040acc3e1ab2ff4fed3218855c63f6fbade30fba193144261736de2", func := "loop.example/fossick/laws.FnScoreTimes", spec := "fnScoreTimes", inPlace := ["internal/abi.NoEscape", "internal/bytealg.MakeNoZero"], unfollowed := true, recurses := true, named := ["loop.example/fossick/impl.shapes", "loop.example/fossick/impl.none"], maps := true, apart := false, laid := [("loop.example/fossick/impl.none", laid_loop_example_fossick_impl_none), ("loop.example/fossick/impl.shapes", laid_loop_example_fossick_impl_shapes)] }
def FnScoreTimesSaid : Prop := fnScoreTimesRow.holds Tryz.pinned (OpenSpec.ofChange fnScoreTimesSpec)

/-- ITS FALSE NEIGHBOUR: 'it returns false'. Refute it at one input. -/
def fnScoreTimesWrong : ChangeSpec := { name := "fnScoreTimes", vars := ["loop.example/fossick/impl.shapes", "loop.example/fossick/impl.none"], fn := fun _ => fun
  | [d1, d2, g1, g2] => { results := [.lit (.bool false)], args := [d1, d2], vars := [g1, g2] }
  | _ => none }
def FnScoreTimesWrongFalsely : Prop := fnScoreTimesRow.holds Tryz.pinned (OpenSpec.ofChange fnScoreTimesWrong)

/-- 'laws.FnScorePhrase': WHATEVER THE INPUT: true; the input reads as it did. -/
def fnScorePhraseSpec : ChangeSpec := { name := "fnScorePhrase", vars := ["loop.example/fossick/impl.shapes", "loop.example/fossick/impl.none"], fn := fun _ => fun
  | [d1, d2, g1, g2] => { results := [.lit (.bool true)], args := [d1, d2], vars := [g1, g2] }
  | _ => none }
def fnScorePhraseRow : OpenClaim := { program := "ytmkhlppjphodfaagreatdoor", sum := "ae55515e6040acc3e1ab2ff4fed3218855c63f6fbade30fba193144261736de2", func := "loop.example/fossick/laws.FnScorePhrase", spec := "fnScorePhrase", inPlace := ["internal/abi.NoEscape", "internal/bytealg.MakeNoZero"], unfollowed := true, recurses := true, named := ["loop.example/fossick/impl.shapes", "loop.example/fossick/impl.none"], maps := true, apart := false, laid := [("loop.example/fossick/impl.none", laid_loop_example_fossick_impl_none), ("loop.example/fossick/impl.shapes", laid_loop_example_fossick_impl_shapes)] }
def FnScorePhraseSaid : Prop := fnScorePhraseRow.holds Tryz.pinned (OpenSpec.ofChange fnScorePhraseSpec)

/-- ITS FALSE NEIGHBOUR: 'it returns false'. Refute it at one input. -/
def fnScorePhraseWrong : ChangeSpec := { name := "fnScorePhrase", vars := ["loop.example/fossick/impl.shapes", "loop.example/fossick/impl.none"], fn := fun _ => fun
  | [d1, d2, g1, g2] => { results := [.lit (.bool false)], args := [d1, d2], vars := [g1, g2] }
  | _ => none }
def FnScorePhraseWrongFalsely : Prop := fnScorePhraseRow.holds Tryz.pinned (OpenSpec.ofChange fnScorePhraseWrong)

/-- 'laws.FnMatchOf': WHATEVER THE INPUT: true; the input reads as it did. -/
def fnMatchOfSpec : ChangeSpec := { name := "fnMatchOf", vars := ["loop.example/fossick/impl.shapes", "loop.example/fossick/impl.none"], fn := fun _ => fun
  | [d, g1, g2] => { results := [.lit (.bool true)], args := [d], vars := [g1, g2] }
  | _ => none }
def fnMatchOfRow : OpenClaim := { program := "ytmkhlppjphodfaagreatdoor", sum := "ae55515e6040acc3e1ab2ff4fed3218855c63f6fbade30fba193144261736de2", func := "loop.example/fossick/laws.FnMatchOf", spec := "fnMatchOf", inPlace := ["internal/abi.NoEscape", "internal/bytealg.MakeNoZero"], unfollowed := true, recurses := true, named := ["loop.example/fossick/impl.shapes", "loop.example/fossick/impl.none"], maps := true, apart := false, laid := [("loop.example/fossick/impl.none", laid_loop_example_fossick_impl_none), ("loop.example/fossick/impl.shapes", laid_loop_example_fossick_impl_shapes)] }
def FnMatchOfSaid : Prop := fnMatchOfRow.holds Tryz.pinned (OpenSpec.ofChange fnMatchOfSpec)

/-- ITS FALSE NEIGHBOUR: 'it returns false'. Refute it at one input. -/
def fnMatchOfWrong : ChangeSpec := { name := "fnMatchOf", vars := ["loop.example/fossick/impl.shapes", "loop.example/fossick/impl.none"], fn := fun _ => fun
  | [d, g1, g2] => { results := [.lit (.bool false)], args := [d], vars := [g1, g2] }
  | _ => none }
def FnMatchOfWrongFalsely : Prop := fnMatchOfRow.holds Tryz.pinned (OpenSpec.ofChange fnMatchOfWrong)

/-- 'laws.FnTopFew': WHATEVER THE INPUT: true; the input reads as it did. -/
def fnTopFewSpec : ChangeSpec := { name := "fnTopFew", vars := ["loop.example/fossick/impl.shapes", "loop.example/fossick/impl.none"], fn := fun _ => fun
  | [d, g1, g2] => { results := [.lit (.bool true)], args := [d], vars := [g1, g2] }
  | _ => none }
def fnTopFewRow : OpenClaim := { program := "ytmkhlppjphodfaagreatdoor", sum := "ae55515e6040acc3e1ab2ff4fed3218855c63f6fbade30fba193144261736de2", func := "loop.example/fossick/laws.FnTopFew", spec := "fnTopFew", inPlace := ["internal/abi.NoEscape", "internal/bytealg.MakeNoZero"], unfollowed := true, recurses := true, named := ["loop.example/fossick/impl.shapes", "loop.example/fossick/impl.none"], maps := true, apart := false, laid := [("loop.example/fossick/impl.none", laid_loop_example_fossick_impl_none), ("loop.example/fossick/impl.shapes", laid_loop_example_fossick_impl_shapes)] }
def FnTopFewSaid : Prop := fnTopFewRow.holds Tryz.pinned (OpenSpec.ofChange fnTopFewSpec)

/-- ITS FALSE NEIGHBOUR: 'it returns false'. Refute it at one input. -/
def fnTopFewWrong : ChangeSpec := { name := "fnTopFew", vars := ["loop.example/fossick/impl.shapes", "loop.example/fossick/impl.none"], fn := fun _ => fun
  | [d, g1, g2] => { results := [.lit (.bool false)], args := [d], vars := [g1, g2] }
  | _ => none }
def FnTopFewWrongFalsely : Prop := fnTopFewRow.holds Tryz.pinned (OpenSpec.ofChange fnTopFewWrong)

/-- 'laws.FnTopTimes': WHATEVER THE INPUT: true; the input reads as it did. -/
def fnTopTimesSpec : ChangeSpec := { name := "fnTopTimes", vars := ["loop.example/fossick/impl.shapes", "loop.example/fossick/impl.none"], fn := fun _ => fun
  | [d, g1, g2] => { results := [.lit (.bool true)], args := [d], vars := [g1, g2] }
  | _ => none }
def fnTopTimesRow : OpenClaim := { program := "ytmkhlppjphodfaagreatdoor", sum := "ae55515e6040acc3e1ab2ff4fed3218855c63f6fbade30fba193144261736de2", func := "loop.example/fossick/laws.FnTopTimes", spec := "fnTopTimes", inPlace := ["internal/abi.NoEscape", "internal/bytealg.MakeNoZero"], unfollowed := true, recurses := true, named := ["loop.example/fossick/impl.shapes", "loop.example/fossick/impl.none"], maps := true, apart := false, laid := [("loop.example/fossick/impl.none", laid_loop_example_fossick_impl_none), ("loop.example/fossick/impl.shapes", laid_loop_example_fossick_impl_shapes)] }
def FnTopTimesSaid : Prop := fnTopTimesRow.holds Tryz.pinned (OpenSpec.ofChange fnTopTimesSpec)

/-- ITS FALSE NEIGHBOUR: 'it returns false'. Refute it at one input. -/
def fnTopTimesWrong : ChangeSpec := { name := "fnTopTimes", vars := ["loop.example/fossick/impl.shapes", "loop.example/fossick/impl.none"], fn := fun _ => fun
  | [d, g1, g2] => { results := [.lit (.bool false)], args := [d], vars := [g1, g2] }
  | _ => none }
def FnTopTimesWrongFalsely : Prop := fnTopTimesRow.holds Tryz.pinned (OpenSpec.ofChange fnTopTimesWrong)

/- THE SECOND FORM. 'bulk': how many values and letters a reading holds, each counted each time it is reached (what is shared counts as often as it is met; a slice's spare places count too). A statement '..UptoSaid' is the law's where the arguments, and the package variables that the reading takes, are together of bulk at most 1048576: NARROWER than '..Said'. Prove '..Said' where nothing that the law and all that it calls make is longer than what came in: it says more and counts as full. Else prove '..UptoSaid'. A law counts once. -/
mutual
def uptoBulk {H : Type} : DataW H → Nat
  | .lit (.string bytes) => bytes.length + 1
  | .lit _ => 1
  | .nil => 1
  | .ptr d => uptoBulk d + 1
  | .slice elems spare => uptoBulkAll elems + uptoBulkAll spare + 1
  | .agg parts => uptoBulkAll parts + 1
  | .iface _ d => uptoBulk d + 1
  | .map entries => uptoBulkEntries entries + 1
  | .held _ => 1
def uptoBulkAll {H : Type} : List (DataW H) → Nat
  | [] => 0
  | d :: r => uptoBulk d + uptoBulkAll r
def uptoBulkEntries {H : Type} : List (Lit × DataW H) → Nat
  | [] => 0
  | x :: r => uptoBulkEntry x + uptoBulkEntries r
def uptoBulkEntry {H : Type} : Lit × DataW H → Nat
  | (.string bytes, d) => bytes.length + uptoBulk d + 1
  | (_, d) => uptoBulk d + 1
 end
def uptoSmall : (H : Type) → List (DataW H) → Bool := fun _ ds => decide (uptoBulkAll ds ≤ 1048576)
def OpenSpec.upto (s : _root_.Go.ChangeSpec) : _root_.Go.OpenSpec := { _root_.Go.OpenSpec.ofChange s with cond := some uptoSmall }

/-- 'laws.FnIndexNew', WHERE WHAT IT READS IS OF BULK AT MOST 1048576: true; the input reads as it did. -/
def fnIndexNewUptoRow : OpenClaim := { program := "ytmkhlppjphodfaagreatdoor", sum := "ae55515e6040acc3e1ab2ff4fed3218855c63f6fbade30fba193144261736de2", func := "loop.example/fossick/laws.FnIndexNew", spec := "fnIndexNew", inPlace := ["internal/abi.NoEscape", "internal/bytealg.MakeNoZero"], unfollowed := true, recurses := true, named := ["loop.example/fossick/impl.shapes", "loop.example/fossick/impl.none"], maps := true, apart := false, laid := [("loop.example/fossick/impl.none", laid_loop_example_fossick_impl_none), ("loop.example/fossick/impl.shapes", laid_loop_example_fossick_impl_shapes)], narrowed := true }
def FnIndexNewUptoSaid : Prop := fnIndexNewUptoRow.holds Tryz.pinned (OpenSpec.upto fnIndexNewSpec)

/-- 'laws.FnScorePlace', WHERE WHAT IT READS IS OF BULK AT MOST 1048576: true; the input reads as it did. -/
def fnScorePlaceUptoRow : OpenClaim := { program := "ytmkhlppjphodfaagreatdoor", sum := "ae55515e6040acc3e1ab2ff4fed3218855c63f6fbade30fba193144261736de2", func := "loop.example/fossick/laws.FnScorePlace", spec := "fnScorePlace", inPlace := ["internal/abi.NoEscape", "internal/bytealg.MakeNoZero"], unfollowed := true, recurses := true, named := ["loop.example/fossick/impl.shapes", "loop.example/fossick/impl.none"], maps := true, apart := false, laid := [("loop.example/fossick/impl.none", laid_loop_example_fossick_impl_none), ("loop.example/fossick/impl.shapes", laid_loop_example_fossick_impl_shapes)], narrowed := true }
def FnScorePlaceUptoSaid : Prop := fnScorePlaceUptoRow.holds Tryz.pinned (OpenSpec.upto fnScorePlaceSpec)

/-- 'laws.FnBoundTop', WHERE WHAT IT READS IS OF BULK AT MOST 1048576: true; the input reads as it did. -/
def fnBoundTopUptoRow : OpenClaim := { program := "ytmkhlppjphodfaagreatdoor", sum := "ae55515e6040acc3e1ab2ff4fed3218855c63f6fbade30fba193144261736de2", func := "loop.example/fossick/laws.FnBoundTop", spec := "fnBoundTop", inPlace := ["internal/abi.NoEscape", "internal/bytealg.MakeNoZero"], unfollowed := true, recurses := true, named := ["loop.example/fossick/impl.none", "loop.example/fossick/impl.shapes"], maps := true, apart := false, laid := [("loop.example/fossick/impl.none", laid_loop_example_fossick_impl_none), ("loop.example/fossick/impl.shapes", laid_loop_example_fossick_impl_shapes)], narrowed := true }
def FnBoundTopUptoSaid : Prop := fnBoundTopUptoRow.holds Tryz.pinned (OpenSpec.upto fnBoundTopSpec)

/-- 'laws.FnScoreTerm', WHERE WHAT IT READS IS OF BULK AT MOST 1048576: true; the input reads as it did. -/
def fnScoreTermUptoRow : OpenClaim := { program := "ytmkhlppjphodfaagreatdoor", sum := "ae55515e6040acc3e1ab2ff4fed3218855c63f6fbade30fba193144261736de2", func := "loop.example/fossick/laws.FnScoreTerm", spec := "fnScoreTerm", inPlace := ["internal/abi.NoEscape", "internal/bytealg.MakeNoZero"], unfollowed := true, recurses := true, named := ["loop.example/fossick/impl.shapes", "loop.example/fossick/impl.none"], maps := true, apart := false, laid := [("loop.example/fossick/impl.none", laid_loop_example_fossick_impl_none), ("loop.example/fossick/impl.shapes", laid_loop_example_fossick_impl_shapes)], narrowed := true }
def FnScoreTermUptoSaid : Prop := fnScoreTermUptoRow.holds Tryz.pinned (OpenSpec.upto fnScoreTermSpec)

/-- 'laws.FnScoreAnd', WHERE WHAT IT READS IS OF BULK AT MOST 1048576: true; the input reads as it did. -/
def fnScoreAndUptoRow : OpenClaim := { program := "ytmkhlppjphodfaagreatdoor", sum := "ae55515e6040acc3e1ab2ff4fed3218855c63f6fbade30fba193144261736de2", func := "loop.example/fossick/laws.FnScoreAnd", spec := "fnScoreAnd", inPlace := ["internal/abi.NoEscape", "internal/bytealg.MakeNoZero"], unfollowed := true, recurses := true, named := ["loop.example/fossick/impl.shapes", "loop.example/fossick/impl.none"], maps := true, apart := false, laid := [("loop.example/fossick/impl.none", laid_loop_example_fossick_impl_none), ("loop.example/fossick/impl.shapes", laid_loop_example_fossick_impl_shapes)], narrowed := true }
def FnScoreAndUptoSaid : Prop := fnScoreAndUptoRow.holds Tryz.pinned (OpenSpec.upto fnScoreAndSpec)

/-- 'laws.FnScoreLess', WHERE WHAT IT READS IS OF BULK AT MOST 1048576: true; the input reads as it did. -/
def fnScoreLessUptoRow : OpenClaim := { program := "ytmkhlppjphodfaagreatdoor", sum := "ae55515e6040acc3e1ab2ff4fed3218855c63f6fbade30fba193144261736de2", func := "loop.example/fossick/laws.FnScoreLess", spec := "fnScoreLess", inPlace := ["internal/abi.NoEscape", "internal/bytealg.MakeNoZero"], unfollowed := true, recurses := true, named := ["loop.example/fossick/impl.shapes", "loop.example/fossick/impl.none"], maps := true, apart := false, laid := [("loop.example/fossick/impl.none", laid_loop_example_fossick_impl_none), ("loop.example/fossick/impl.shapes", laid_loop_example_fossick_impl_shapes)], narrowed := true }
def FnScoreLessUptoSaid : Prop := fnScoreLessUptoRow.holds Tryz.pinned (OpenSpec.upto fnScoreLessSpec)

/-- 'laws.FnScoreOr', WHERE WHAT IT READS IS OF BULK AT MOST 1048576: true; the input reads as it did. -/
def fnScoreOrUptoRow : OpenClaim := { program := "ytmkhlppjphodfaagreatdoor", sum := "ae55515e6040acc3e1ab2ff4fed3218855c63f6fbade30fba193144261736de2", func := "loop.example/fossick/laws.FnScoreOr", spec := "fnScoreOr", inPlace := ["internal/abi.NoEscape", "internal/bytealg.MakeNoZero"], unfollowed := true, recurses := true, named := ["loop.example/fossick/impl.shapes", "loop.example/fossick/impl.none"], maps := true, apart := false, laid := [("loop.example/fossick/impl.none", laid_loop_example_fossick_impl_none), ("loop.example/fossick/impl.shapes", laid_loop_example_fossick_impl_shapes)], narrowed := true }
def FnScoreOrUptoSaid : Prop := fnScoreOrUptoRow.holds Tryz.pinned (OpenSpec.upto fnScoreOrSpec)

/-- 'laws.FnScoreTimes', WHERE WHAT IT READS IS OF BULK AT MOST 1048576: true; the input reads as it did. -/
def fnScoreTimesUptoRow : OpenClaim := { program := "ytmkhlppjphodfaagreatdoor", sum := "ae55515e6040acc3e1ab2ff4fed3218855c63f6fbade30fba193144261736de2", func := "loop.example/fossick/laws.FnScoreTimes", spec := "fnScoreTimes", inPlace := ["internal/abi.NoEscape", "internal/bytealg.MakeNoZero"], unfollowed := true, recurses := true, named := ["loop.example/fossick/impl.shapes", "loop.example/fossick/impl.none"], maps := true, apart := false, laid := [("loop.example/fossick/impl.none", laid_loop_example_fossick_impl_none), ("loop.example/fossick/impl.shapes", laid_loop_example_fossick_impl_shapes)], narrowed := true }
def FnScoreTimesUptoSaid : Prop := fnScoreTimesUptoRow.holds Tryz.pinned (OpenSpec.upto fnScoreTimesSpec)

/-- 'laws.FnScorePhrase', WHERE WHAT IT READS IS OF BULK AT MOST 1048576: true; the input reads as it did. -/
def fnScorePhraseUptoRow : OpenClaim := { program := "ytmkhlppjphodfaagreatdoor", sum := "ae55515e6040acc3e1ab2ff4fed3218855c63f6fbade30fba193144261736de2", func := "loop.example/fossick/laws.FnScorePhrase", spec := "fnScorePhrase", inPlace := ["internal/abi.NoEscape", "internal/bytealg.MakeNoZero"], unfollowed := true, recurses := true, named := ["loop.example/fossick/impl.shapes", "loop.example/fossick/impl.none"], maps := true, apart := false, laid := [("loop.example/fossick/impl.none", laid_loop_example_fossick_impl_none), ("loop.example/fossick/impl.shapes", laid_loop_example_fossick_impl_shapes)], narrowed := true }
def FnScorePhraseUptoSaid : Prop := fnScorePhraseUptoRow.holds Tryz.pinned (OpenSpec.upto fnScorePhraseSpec)

/-- 'laws.FnMatchOf', WHERE WHAT IT READS IS OF BULK AT MOST 1048576: true; the input reads as it did. -/
def fnMatchOfUptoRow : OpenClaim := { program := "ytmkhlppjphodfaagreatdoor", sum := "ae55515e6040acc3e1ab2ff4fed3218855c63f6fbade30fba193144261736de2", func := "loop.example/fossick/laws.FnMatchOf", spec := "fnMatchOf", inPlace := ["internal/abi.NoEscape", "internal/bytealg.MakeNoZero"], unfollowed := true, recurses := true, named := ["loop.example/fossick/impl.shapes", "loop.example/fossick/impl.none"], maps := true, apart := false, laid := [("loop.example/fossick/impl.none", laid_loop_example_fossick_impl_none), ("loop.example/fossick/impl.shapes", laid_loop_example_fossick_impl_shapes)], narrowed := true }
def FnMatchOfUptoSaid : Prop := fnMatchOfUptoRow.holds Tryz.pinned (OpenSpec.upto fnMatchOfSpec)

/-- 'laws.FnTopFew', WHERE WHAT IT READS IS OF BULK AT MOST 1048576: true; the input reads as it did. -/
def fnTopFewUptoRow : OpenClaim := { program := "ytmkhlppjphodfaagreatdoor", sum := "ae55515e6040acc3e1ab2ff4fed3218855c63f6fbade30fba193144261736de2", func := "loop.example/fossick/laws.FnTopFew", spec := "fnTopFew", inPlace := ["internal/abi.NoEscape", "internal/bytealg.MakeNoZero"], unfollowed := true, recurses := true, named := ["loop.example/fossick/impl.shapes", "loop.example/fossick/impl.none"], maps := true, apart := false, laid := [("loop.example/fossick/impl.none", laid_loop_example_fossick_impl_none), ("loop.example/fossick/impl.shapes", laid_loop_example_fossick_impl_shapes)], narrowed := true }
def FnTopFewUptoSaid : Prop := fnTopFewUptoRow.holds Tryz.pinned (OpenSpec.upto fnTopFewSpec)

/-- 'laws.FnTopTimes', WHERE WHAT IT READS IS OF BULK AT MOST 1048576: true; the input reads as it did. -/
def fnTopTimesUptoRow : OpenClaim := { program := "ytmkhlppjphodfaagreatdoor", sum := "ae55515e6040acc3e1ab2ff4fed3218855c63f6fbade30fba193144261736de2", func := "loop.example/fossick/laws.FnTopTimes", spec := "fnTopTimes", inPlace := ["internal/abi.NoEscape", "internal/bytealg.MakeNoZero"], unfollowed := true, recurses := true, named := ["loop.example/fossick/impl.shapes", "loop.example/fossick/impl.none"], maps := true, apart := false, laid := [("loop.example/fossick/impl.none", laid_loop_example_fossick_impl_none), ("loop.example/fossick/impl.shapes", laid_loop_example_fossick_impl_shapes)], narrowed := true }
def FnTopTimesUptoSaid : Prop := fnTopTimesUptoRow.holds Tryz.pinned (OpenSpec.upto fnTopTimesSpec)

end Rows
end Go.Proofs.YtmkhlppjphodfaaGreatDoor
