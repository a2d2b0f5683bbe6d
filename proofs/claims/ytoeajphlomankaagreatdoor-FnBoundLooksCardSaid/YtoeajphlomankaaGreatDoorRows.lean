/-
  NARROWER THAN 'FOR EVERY INPUT', by the rows' own cells (each row's printed sentence says how): FnBoundOf: laid · FnIndexNew: maps, laid · FnBoundLooks: laid · FnScorePlace: maps, laid · FnBoundTop: maps, laid.
  DERIVED. THE GIVEN ROWS OF THIS SEAT. 5 by the template 'for every input the law returns true; each argument reads behind the call as it read before'; 0 by the template 'total and deterministic' (their statements: YtoeajphlomankaaGreatDoorTotals.lean).
  GIVEN WITH THE SEED: the statements are not yours to turn. If you find one false, say at which input.
  Laid BY PROGRAM, IN A SANDBOX (cutbox-rows.mjs): the forced cells as the released guide's own fill.sh prints them over the translation cf13eef90949c27c… (all of the seat's roots in one cut). By AI agents, Wed Nov 11 2026. No macro, syntax, notation, axiom, sorry.
-/
import Derived.Test.YtoeajphlomankaaGreatDoorChecked
import GoSem.Claim
import GoSem.ClaimJoined
import GoSem.ClaimMapViews
import Derived.JoinedTies
import Derived.KernelRfl
namespace Go.Proofs.YtoeajphlomankaaGreatDoor
/- THE CELL 'sum', in the pinned program and in every row, IS THE sha256 OF THE DUMP (.gsa) THAT YtoeajphlomankaaGreatDoorProg.lean LOADS. Nothing in Lean hashes anything: it is a label: what it is worth is what the hold of that sum in a sandbox is worth. -/
noncomputable def Tryz.pinned : Pinned := { name := "ytoeajphlomankaagreatdoor", sum := "cf13eef90949c27c674d8b69c3ba9b1cce7c4b7c256fd381a6fbbc73e1fbdc2e", checked := Tryz.checked }
namespace Rows
def none {H : Type} : Left H := { results := [], args := [] }

/- WHAT THE LISTED PACKAGE-LEVEL VARIABLES READ AS WHEN THE CALL BEGINS. Each datum BY PROGRAM (the guide's laid-datum.mjs) off the statement by which the dump's own 'gosem.cut.vars' lays the variable. In a bare row this is a premise. The card (YtoeajphlomankaaGreatDoorCards.lean) ties it to the program's text. -/
def laid_loop_example_fossick_impl_none {H : Type} : DataW H := .agg [.lit (.int .i64 0), .lit (.int .i64 1)]
def laid_loop_example_fossick_impl_shapes {H : Type} : DataW H := .map [(.int .i64 1, .agg [.lit (.bool false), .lit (.int .i64 0), .lit (.int .i64 0), .lit (.int .i64 0), .lit (.int .i64 0), .lit (.bool false), .lit (.int .i64 0), .lit (.int .i64 0)]), (.int .i64 2, .agg [.lit (.bool true), .lit (.int .i64 1), .lit (.int .i64 1), .lit (.int .i64 0), .lit (.int .i64 0), .lit (.bool false), .lit (.int .i64 0), .lit (.int .i64 0)]), (.int .i64 3, .agg [.lit (.bool true), .lit (.int .i64 2), .lit (.int .i64 4), .lit (.int .i64 0), .lit (.int .i64 5), .lit (.bool false), .lit (.int .i64 0), .lit (.int .i64 0)]), (.int .i64 4, .agg [.lit (.bool true), .lit (.int .i64 1), .lit (.int .i64 1), .lit (.int .i64 1), .lit (.int .i64 2), .lit (.bool false), .lit (.int .i64 0), .lit (.int .i64 0)]), (.int .i64 5, .agg [.lit (.bool true), .lit (.int .i64 1), .lit (.int .i64 1), .lit (.int .i64 0), .lit (.int .i64 0), .lit (.bool false), .lit (.int .i64 0), .lit (.int .i64 0)]), (.int .i64 6, .agg [.lit (.bool true), .lit (.int .i64 0), .lit (.int .i64 0), .lit (.int .i64 0), .lit (.int .i64 999999999), .lit (.bool true), .lit (.int .i64 0), .lit (.int .i64 0)]), (.int .i64 7, .agg [.lit (.bool false), .lit (.int .i64 0), .lit (.int .i64 0), .lit (.int .i64 0), .lit (.int .i64 0), .lit (.bool false), .lit (.int .i64 2), .lit (.int .i64 4)]), (.int .i64 8, .agg [.lit (.bool false), .lit (.int .i64 0), .lit (.int .i64 0), .lit (.int .i64 0), .lit (.int .i64 0), .lit (.bool false), .lit (.int .i64 2), .lit (.int .i64 4)]), (.int .i64 9, .agg [.lit (.bool false), .lit (.int .i64 0), .lit (.int .i64 0), .lit (.int .i64 0), .lit (.int .i64 0), .lit (.bool false), .lit (.int .i64 2), .lit (.int .i64 2)]), (.int .i64 10, .agg [.lit (.bool false), .lit (.int .i64 0), .lit (.int .i64 0), .lit (.int .i64 2), .lit (.int .i64 9), .lit (.bool false), .lit (.int .i64 1), .lit (.int .i64 1)])]

/-- 'laws.FnBoundOf': WHATEVER THE INPUT: true; the input reads as it did. -/
def fnBoundOfSpec : ChangeSpec := { name := "fnBoundOf", vars := ["loop.example/fossick/impl.none"], fn := fun _ => fun
  | [d, g1] => { results := [.lit (.bool true)], args := [d], vars := [g1] }
  | _ => none }
def fnBoundOfRow : OpenClaim := { program := "ytoeajphlomankaagreatdoor", sum := "cf13eef90949c27c674d8b69c3ba9b1cce7c4b7c256fd381a6fbbc73e1fbdc2e", func := "loop.example/fossick/laws.FnBoundOf", spec := "fnBoundOf", unfollowed := true, recurses := true, named := ["loop.example/fossick/impl.none"], apart := false, laid := [("loop.example/fossick/impl.none", laid_loop_example_fossick_impl_none)] }
def FnBoundOfSaid : Prop := fnBoundOfRow.holds Tryz.pinned (OpenSpec.ofChange fnBoundOfSpec)

/-- ITS FALSE NEIGHBOUR: 'it returns false'. Refute it at one input. -/
def fnBoundOfWrong : ChangeSpec := { name := "fnBoundOf", vars := ["loop.example/fossick/impl.none"], fn := fun _ => fun
  | [d, g1] => { results := [.lit (.bool false)], args := [d], vars := [g1] }
  | _ => none }
def FnBoundOfWrongFalsely : Prop := fnBoundOfRow.holds Tryz.pinned (OpenSpec.ofChange fnBoundOfWrong)

/-- 'laws.FnIndexNew': WHATEVER THE INPUT: true; the input reads as it did. -/
def fnIndexNewSpec : ChangeSpec := { name := "fnIndexNew", vars := ["loop.example/fossick/impl.shapes", "loop.example/fossick/impl.none"], fn := fun _ => fun
  | [d, g1, g2] => { results := [.lit (.bool true)], args := [d], vars := [g1, g2] }
  | _ => none }
def fnIndexNewRow : OpenClaim := { program := "ytoeajphlomankaagreatdoor", sum := "cf13eef90949c27c674d8b69c3ba9b1cce7c4b7c256fd381a6fbbc73e1fbdc2e", func := "loop.example/fossick/laws.FnIndexNew", spec := "fnIndexNew", inPlace := ["internal/abi.NoEscape", "internal/bytealg.MakeNoZero"], unfollowed := true, recurses := true, named := ["loop.example/fossick/impl.shapes", "loop.example/fossick/impl.none"], maps := true, apart := false, laid := [("loop.example/fossick/impl.none", laid_loop_example_fossick_impl_none), ("loop.example/fossick/impl.shapes", laid_loop_example_fossick_impl_shapes)] }
def FnIndexNewSaid : Prop := fnIndexNewRow.holds Tryz.pinned (OpenSpec.ofChange fnIndexNewSpec)

/-- ITS FALSE NEIGHBOUR: 'it returns false'. Refute it at one input. -/
def fnIndexNewWrong : ChangeSpec := { name := "fnIndexNew", vars := ["loop.example/fossick/impl.shapes", "loop.example/fossick/impl.none"], fn := fun _ => fun
  | [d, g1, g2] => { results := [.lit (.bool false)], args := [d], vars := [g1, g2] }
  | _ => none }
def FnIndexNewWrongFalsely : Prop := fnIndexNewRow.holds Tryz.pinned (OpenSpec.ofChange fnIndexNewWrong)

/-- 'laws.FnBoundLooks': WHATEVER THE INPUT: true; the input reads as it did. -/
def fnBoundLooksSpec : ChangeSpec := { name := "fnBoundLooks", vars := ["loop.example/fossick/impl.none"], fn := fun _ => fun
  | [d, g1] => { results := [.lit (.bool true)], args := [d], vars := [g1] }
  | _ => none }
def fnBoundLooksRow : OpenClaim := { program := "ytoeajphlomankaagreatdoor", sum := "cf13eef90949c27c674d8b69c3ba9b1cce7c4b7c256fd381a6fbbc73e1fbdc2e", func := "loop.example/fossick/laws.FnBoundLooks", spec := "fnBoundLooks", unfollowed := true, recurses := true, named := ["loop.example/fossick/impl.none"], apart := false, laid := [("loop.example/fossick/impl.none", laid_loop_example_fossick_impl_none)] }
def FnBoundLooksSaid : Prop := fnBoundLooksRow.holds Tryz.pinned (OpenSpec.ofChange fnBoundLooksSpec)

/-- ITS FALSE NEIGHBOUR: 'it returns false'. Refute it at one input. -/
def fnBoundLooksWrong : ChangeSpec := { name := "fnBoundLooks", vars := ["loop.example/fossick/impl.none"], fn := fun _ => fun
  | [d, g1] => { results := [.lit (.bool false)], args := [d], vars := [g1] }
  | _ => none }
def FnBoundLooksWrongFalsely : Prop := fnBoundLooksRow.holds Tryz.pinned (OpenSpec.ofChange fnBoundLooksWrong)

/-- 'laws.FnScorePlace': WHATEVER THE INPUT: true; the input reads as it did. -/
def fnScorePlaceSpec : ChangeSpec := { name := "fnScorePlace", vars := ["loop.example/fossick/impl.shapes", "loop.example/fossick/impl.none"], fn := fun _ => fun
  | [d1, d2, g1, g2] => { results := [.lit (.bool true)], args := [d1, d2], vars := [g1, g2] }
  | _ => none }
def fnScorePlaceRow : OpenClaim := { program := "ytoeajphlomankaagreatdoor", sum := "cf13eef90949c27c674d8b69c3ba9b1cce7c4b7c256fd381a6fbbc73e1fbdc2e", func := "loop.example/fossick/laws.FnScorePlace", spec := "fnScorePlace", inPlace := ["internal/abi.NoEscape", "internal/bytealg.MakeNoZero"], unfollowed := true, recurses := true, named := ["loop.example/fossick/impl.shapes", "loop.example/fossick/impl.none"], maps := true, apart := false, laid := [("loop.example/fossick/impl.none", laid_loop_example_fossick_impl_none), ("loop.example/fossick/impl.shapes", laid_loop_example_fossick_impl_shapes)] }
def FnScorePlaceSaid : Prop := fnScorePlaceRow.holds Tryz.pinned (OpenSpec.ofChange fnScorePlaceSpec)

/-- ITS FALSE NEIGHBOUR: 'it returns false'. Refute it at one input. -/
def fnScorePlaceWrong : ChangeSpec := { name := "fnScorePlace", vars := ["loop.example/fossick/impl.shapes", "loop.example/fossick/impl.none"], fn := fun _ => fun
  | [d1, d2, g1, g2] => { results := [.lit (.bool false)], args := [d1, d2], vars := [g1, g2] }
  | _ => none }
def FnScorePlaceWrongFalsely : Prop := fnScorePlaceRow.holds Tryz.pinned (OpenSpec.ofChange fnScorePlaceWrong)

/-- 'laws.FnBoundTop': WHATEVER THE INPUT: true; the input reads as it did. -/
def fnBoundTopSpec : ChangeSpec := { name := "fnBoundTop", vars := ["loop.example/fossick/impl.none", "loop.example/fossick/impl.shapes"], fn := fun _ => fun
  | [d, g1, g2] => { results := [.lit (.bool true)], args := [d], vars := [g1, g2] }
  | _ => none }
def fnBoundTopRow : OpenClaim := { program := "ytoeajphlomankaagreatdoor", sum := "cf13eef90949c27c674d8b69c3ba9b1cce7c4b7c256fd381a6fbbc73e1fbdc2e", func := "loop.example/fossick/laws.FnBoundTop", spec := "fnBoundTop", inPlace := ["internal/abi.NoEscape", "internal/bytealg.MakeNoZero"], unfollowed := true, recurses := true, named := ["loop.example/fossick/impl.none", "loop.example/fossick/impl.shapes"], maps := true, apart := false, laid := [("loop.example/fossick/impl.none", laid_loop_example_fossick_impl_none), ("loop.example/fossick/impl.shapes", laid_loop_example_fossick_impl_shapes)] }
def FnBoundTopSaid : Prop := fnBoundTopRow.holds Tryz.pinned (OpenSpec.ofChange fnBoundTopSpec)

/-- ITS FALSE NEIGHBOUR: 'it returns false'. Refute it at one input. -/
def fnBoundTopWrong : ChangeSpec := { name := "fnBoundTop", vars := ["loop.example/fossick/impl.none", "loop.example/fossick/impl.shapes"], fn := fun _ => fun
  | [d, g1, g2] => { results := [.lit (.bool false)], args := [d], vars := [g1, g2] }
  | _ => none }
def FnBoundTopWrongFalsely : Prop := fnBoundTopRow.holds Tryz.pinned (OpenSpec.ofChange fnBoundTopWrong)

/- THE SECOND FORM. 'bulk': how many values and letters a reading holds, each counted each time it is reached (what is shared counts as often as it is met; a slice's spare places count too). A statement '..UptoSaid' is the law's where the arguments, and the package variables that the reading takes, are together of bulk at most 1048576: NARROWER than '..Said'. Prove '..Said' where nothing that the law and all that it calls make is longer than what came in: it says more and counts as full. Else prove '..UptoSaid'. A law counts once. -/
mutual
def uptoBulk {H : Type} : DataW H → Nat
  | .lit (.string bytes) => bytes.length + 1
  | .lit _ => 1
  | .nil => 1
  | .ptr d => uptoBulk d + 1
  | .slice elems spare => uptoBulkAll elems + uptoBulkAll spare + 1
  | .agg parts => uptoBulkAll parts + 1
  | .iface _ d => uptoBulk d + 1
  | .map entries => uptoBulkEntries entries + 1
  | .held _ => 1
def uptoBulkAll {H : Type} : List (DataW H) → Nat
  | [] => 0
  | d :: r => uptoBulk d + uptoBulkAll r
def uptoBulkEntries {H : Type} : List (Lit × DataW H) → Nat
  | [] => 0
  | x :: r => uptoBulkEntry x + uptoBulkEntries r
def uptoBulkEntry {H : Type} : Lit × DataW H → Nat
  | (.string bytes, d) => bytes.length + uptoBulk d + 1
  | (_, d) => uptoBulk d + 1
 end
def uptoSmall : (H : Type) → List (DataW H) → Bool := fun _ ds => decide (uptoBulkAll ds ≤ 1048576)
def OpenSpec.upto (s : _root_.Go.ChangeSpec) : _root_.Go.OpenSpec := { _root_.Go.OpenSpec.ofChange s with cond := some uptoSmall }

/-- 'laws.FnBoundOf', WHERE WHAT IT READS IS OF BULK AT MOST 1048576: true; the input reads as it did. -/
def fnBoundOfUptoRow : OpenClaim := { program := "ytoeajphlomankaagreatdoor", sum := "cf13eef90949c27c674d8b69c3ba9b1cce7c4b7c256fd381a6fbbc73e1fbdc2e", func := "loop.example/fossick/laws.FnBoundOf", spec := "fnBoundOf", unfollowed := true, recurses := true, named := ["loop.example/fossick/impl.none"], apart := false, laid := [("loop.example/fossick/impl.none", laid_loop_example_fossick_impl_none)], narrowed := true }
def FnBoundOfUptoSaid : Prop := fnBoundOfUptoRow.holds Tryz.pinned (OpenSpec.upto fnBoundOfSpec)

/-- 'laws.FnIndexNew', WHERE WHAT IT READS IS OF BULK AT MOST 1048576: true; the input reads as it did. -/
def fnIndexNewUptoRow : OpenClaim := { program := "ytoeajphlomankaagreatdoor", sum := "cf13eef90949c27c674d8b69c3ba9b1cce7c4b7c256fd381a6fbbc73e1fbdc2e", func := "loop.example/fossick/laws.FnIndexNew", spec := "fnIndexNew", inPlace := ["internal/abi.NoEscape", "internal/bytealg.MakeNoZero"], unfollowed := true, recurses := true, named := ["loop.example/fossick/impl.shapes", "loop.example/fossick/impl.none"], maps := true, apart := false, laid := [("loop.example/fossick/impl.none", laid_loop_example_fossick_impl_none), ("loop.example/fossick/impl.shapes", laid_loop_example_fossick_impl_shapes)], narrowed := true }
def FnIndexNewUptoSaid : Prop := fnIndexNewUptoRow.holds Tryz.pinned (OpenSpec.upto fnIndexNewSpec)

/-- 'laws.FnBoundLooks', WHERE WHAT IT READS IS OF BULK AT MOST 1048576: true; the input reads as it did. -/
def fnBoundLooksUptoRow : OpenClaim := { program := "ytoeajphlomankaagreatdoor", sum := "cf13eef90949c27c674d8b69c3ba9b1cce7c4b7c256fd381a6fbbc73e1fbdc2e", func := "loop.example/fossick/laws.FnBoundLooks", spec := "fnBoundLooks", unfollowed := true, recurses := true, named := ["loop.example/fossick/impl.none"], apart := false, laid := [("loop.example/fossick/impl.none", laid_loop_example_fossick_impl_none)], narrowed := true }
def FnBoundLooksUptoSaid : Prop := fnBoundLooksUptoRow.holds Tryz.pinned (OpenSpec.upto fnBoundLooksSpec)

/-- 'laws.FnScorePlace', WHERE WHAT IT READS IS OF BULK AT MOST 1048576: true; the input reads as it did. -/
def fnScorePlaceUptoRow : OpenClaim := { program := "ytoeajphlomankaagreatdoor", sum := "cf13eef90949c27c674d8b69c3ba9b1cce7c4b7c256fd381a6fbbc73e1fbdc2e", func := "loop.example/fossick/laws.FnScorePlace", spec := "fnScorePlace", inPlace := ["internal/abi.NoEscape", "internal/bytealg.MakeNoZero"], unfollowed := true, recurses := true, named := ["loop.example/fossick/impl.shapes", "loop.example/fossick/impl.none"], maps := true, apart := false, laid := [("loop.example/fossick/impl.none", laid_loop_example_fossick_impl_none), ("loop.example/fossick/impl.shapes", laid_loop_example_fossick_impl_shapes)], narrowed := true }
def FnScorePlaceUptoSaid : Prop := fnScorePlaceUptoRow.holds Tryz.pinned (OpenSpec.upto fnScorePlaceSpec)

/-- 'laws.FnBoundTop', WHERE WHAT IT READS IS OF BULK AT MOST 1048576: true; the input reads as it did. -/
def fnBoundTopUptoRow : OpenClaim := { program := "ytoeajphlomankaagreatdoor", sum := "cf13eef90949c27c674d8b69c3ba9b1cce7c4b7c256fd381a6fbbc73e1fbdc2e", func := "loop.example/fossick/laws.FnBoundTop", spec := "fnBoundTop", inPlace := ["internal/abi.NoEscape", "internal/bytealg.MakeNoZero"], unfollowed := true, recurses := true, named := ["loop.example/fossick/impl.none", "loop.example/fossick/impl.shapes"], maps := true, apart := false, laid := [("loop.example/fossick/impl.none", laid_loop_example_fossick_impl_none), ("loop.example/fossick/impl.shapes", laid_loop_example_fossick_impl_shapes)], narrowed := true }
def FnBoundTopUptoSaid : Prop := fnBoundTopUptoRow.holds Tryz.pinned (OpenSpec.upto fnBoundTopSpec)

end Rows
end Go.Proofs.YtoeajphlomankaaGreatDoor
