/-
  NARROWER THAN 'FOR EVERY INPUT', by the rows' own cells (each row's printed sentence says how): FnExactBoundOf: laid · FnExactBoundTop: laid.
  DERIVED. THE GIVEN ROWS OF THIS SEAT. 2 by the template 'for every input the law returns true; each argument reads behind the call as it read before'; 0 by the template 'total and deterministic' (their statements: YtfiahfncijjliaaGreatDoorTotals.lean).
  GIVEN WITH THE SEED: the statements are not yours to turn. If you find one false, say at which input.
  Laid BY PROGRAM, IN A SANDBOX (cutbox-rows.mjs): the forced cells as the released guide's own fill.sh prints them over the translation 02b790cd276512f2… (all of the seat's roots in one cut). By AI agents, Wed Nov 11 2026. No macro, syntax, notation, axiom, sorry.
-/
import Derived.Test.YtfiahfncijjliaaGreatDoorChecked
import GoSem.Claim
import GoSem.ClaimJoined
import GoSem.ClaimMapViews
import Derived.JoinedTies
import Derived.KernelRfl
namespace Go.Proofs.YtfiahfncijjliaaGreatDoor
/- THE CELL 'sum', in the pinned program and in every row, IS THE sha256 OF THE DUMP (.gsa) THAT YtfiahfncijjliaaGreatDoorProg.lean LOADS. Nothing in Lean hashes anything: it is a label: what it is worth is what the hold of that sum in a sandbox is worth. -/
noncomputable def Tryz.pinned : Pinned := { name := "ytfiahfncijjliaagreatdoor", sum := "02b790cd276512f272e1da20b413539b2e5a6e384cb798845a3788f54638b5a3", checked := Tryz.checked }
namespace Rows
def none {H : Type} : Left H := { results := [], args := [] }

/- WHAT THE LISTED PACKAGE-LEVEL VARIABLES READ AS WHEN THE CALL BEGINS. Each datum BY PROGRAM (the guide's laid-datum.mjs) off the statement by which the dump's own 'gosem.cut.vars' lays the variable. In a bare row this is a premise. The card (YtfiahfncijjliaaGreatDoorCards.lean) ties it to the program's text. -/
def laid_loop_example_fossick_impl_none {H : Type} : DataW H := .agg [.lit (.int .i64 0), .lit (.int .i64 1)]

/-- 'laws.FnExactBoundOf': WHATEVER THE INPUT: true; the input reads as it did. -/
def fnExactBoundOfSpec : ChangeSpec := { name := "fnExactBoundOf", vars := ["loop.example/fossick/impl.none"], fn := fun _ => fun
  | [d1, d2, d3, d4, g1] => { results := [.lit (.bool true)], args := [d1, d2, d3, d4], vars := [g1] }
  | _ => none }
def fnExactBoundOfRow : OpenClaim := { program := "ytfiahfncijjliaagreatdoor", sum := "02b790cd276512f272e1da20b413539b2e5a6e384cb798845a3788f54638b5a3", func := "loop.example/fossick/laws.FnExactBoundOf", spec := "fnExactBoundOf", unfollowed := true, recurses := true, named := ["loop.example/fossick/impl.none"], apart := false, laid := [("loop.example/fossick/impl.none", laid_loop_example_fossick_impl_none)] }
def FnExactBoundOfSaid : Prop := fnExactBoundOfRow.holds Tryz.pinned (OpenSpec.ofChange fnExactBoundOfSpec)

/-- ITS FALSE NEIGHBOUR: 'it returns false'. Refute it at one input. -/
def fnExactBoundOfWrong : ChangeSpec := { name := "fnExactBoundOf", vars := ["loop.example/fossick/impl.none"], fn := fun _ => fun
  | [d1, d2, d3, d4, g1] => { results := [.lit (.bool false)], args := [d1, d2, d3, d4], vars := [g1] }
  | _ => none }
def FnExactBoundOfWrongFalsely : Prop := fnExactBoundOfRow.holds Tryz.pinned (OpenSpec.ofChange fnExactBoundOfWrong)

/-- 'laws.FnExactBoundTop': WHATEVER THE INPUT: true; the input reads as it did. -/
def fnExactBoundTopSpec : ChangeSpec := { name := "fnExactBoundTop", vars := ["loop.example/fossick/impl.none"], fn := fun _ => fun
  | [d1, d2, d3, d4, d5, g1] => { results := [.lit (.bool true)], args := [d1, d2, d3, d4, d5], vars := [g1] }
  | _ => none }
def fnExactBoundTopRow : OpenClaim := { program := "ytfiahfncijjliaagreatdoor", sum := "02b790cd276512f272e1da20b413539b2e5a6e384cb798845a3788f54638b5a3", func := "loop.example/fossick/laws.FnExactBoundTop", spec := "fnExactBoundTop", unfollowed := true, recurses := true, named := ["loop.example/fossick/impl.none"], apart := false, laid := [("loop.example/fossick/impl.none", laid_loop_example_fossick_impl_none)] }
def FnExactBoundTopSaid : Prop := fnExactBoundTopRow.holds Tryz.pinned (OpenSpec.ofChange fnExactBoundTopSpec)

/-- ITS FALSE NEIGHBOUR: 'it returns false'. Refute it at one input. -/
def fnExactBoundTopWrong : ChangeSpec := { name := "fnExactBoundTop", vars := ["loop.example/fossick/impl.none"], fn := fun _ => fun
  | [d1, d2, d3, d4, d5, g1] => { results := [.lit (.bool false)], args := [d1, d2, d3, d4, d5], vars := [g1] }
  | _ => none }
def FnExactBoundTopWrongFalsely : Prop := fnExactBoundTopRow.holds Tryz.pinned (OpenSpec.ofChange fnExactBoundTopWrong)

/- THE SECOND FORM. 'bulk': how many values and letters a reading holds, each counted each time it is reached (what is shared counts as often as it is met; a slice's spare places count too). A statement '..UptoSaid' is the law's where the arguments, and the package variables that the reading takes, are together of bulk at most 1048576: NARROWER than '..Said'. Prove '..Said' where nothing that the law and all that it calls make is longer than what came in: it says more and counts as full. Else prove '..UptoSaid'. A law counts once. -/
mutual
def uptoBulk {H : Type} : DataW H → Nat
  | .lit (.string bytes) => bytes.length + 1
  | .lit _ => 1
  | .nil => 1
  | .ptr d => uptoBulk d + 1
  | .slice elems spare => uptoBulkAll elems + uptoBulkAll spare + 1
  | .agg parts => uptoBulkAll parts + 1
  | .iface _ d => uptoBulk d + 1
  | .map entries => uptoBulkEntries entries + 1
  | .held _ => 1
def uptoBulkAll {H : Type} : List (DataW H) → Nat
  | [] => 0
  | d :: r => uptoBulk d + uptoBulkAll r
def uptoBulkEntries {H : Type} : List (Lit × DataW H) → Nat
  | [] => 0
  | x :: r => uptoBulkEntry x + uptoBulkEntries r
def uptoBulkEntry {H : Type} : Lit × DataW H → Nat
  | (.string bytes, d) => bytes.length + uptoBulk d + 1
  | (_, d) => uptoBulk d + 1
 end
def uptoSmall : (H : Type) → List (DataW H) → Bool := fun _ ds => decide (uptoBulkAll ds ≤ 1048576)
def OpenSpec.upto (s : _root_.Go.ChangeSpec) : _root_.Go.OpenSpec := { _root_.Go.OpenSpec.ofChange s with cond := some uptoSmall }

/-- 'laws.FnExactBoundOf', WHERE WHAT IT READS IS OF BULK AT MOST 1048576: true; the input reads as it did. -/
def fnExactBoundOfUptoRow : OpenClaim := { program := "ytfiahfncijjliaagreatdoor", sum := "02b790cd276512f272e1da20b413539b2e5a6e384cb798845a3788f54638b5a3", func := "loop.example/fossick/laws.FnExactBoundOf", spec := "fnExactBoundOf", unfollowed := true, recurses := true, named := ["loop.example/fossick/impl.none"], apart := false, laid := [("loop.example/fossick/impl.none", laid_loop_example_fossick_impl_none)], narrowed := true }
def FnExactBoundOfUptoSaid : Prop := fnExactBoundOfUptoRow.holds Tryz.pinned (OpenSpec.upto fnExactBoundOfSpec)

/-- 'laws.FnExactBoundTop', WHERE WHAT IT READS IS OF BULK AT MOST 1048576: true; the input reads as it did. -/
def fnExactBoundTopUptoRow : OpenClaim := { program := "ytfiahfncijjliaagreatdoor", sum := "02b790cd276512f272e1da20b413539b2e5a6e384cb798845a3788f54638b5a3", func := "loop.example/fossick/laws.FnExactBoundTop", spec := "fnExactBoundTop", unfollowed := true, recurses := true, named := ["loop.example/fossick/impl.none"], apart := false, laid := [("loop.example/fossick/impl.none", laid_loop_example_fossick_impl_none)], narrowed := true }
def FnExactBoundTopUptoSaid : Prop := fnExactBoundTopUptoRow.holds Tryz.pinned (OpenSpec.upto fnExactBoundTopSpec)

end Rows
end Go.Proofs.YtfiahfncijjliaaGreatDoor
