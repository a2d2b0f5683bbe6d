/-
  No cell of these rows narrows 'for every input' (looked for: loops, veiled, ifaces, maps, wideKeys, modest, calm, conditions, laid).
  DERIVED. THE GIVEN ROWS OF THIS SEAT. 6 by the template 'for every input the law returns true; each argument reads behind the call as it read before'; 0 by the template 'total and deterministic' (their statements: YtajfhpaokbgmeaaTotals.lean).
  GIVEN WITH THE SEED: the statements are not yours to turn. If you find one false, say at which input.
  Laid BY PROGRAM, IN A SANDBOX (cutbox-rows.mjs): the forced cells as the released guide's own fill.sh prints them over the translation 1dcc9621d330b8c7… (all of the seat's roots in one cut). By AI agents, Wed Nov 11 2026. No macro, syntax, notation, axiom, sorry.
-/
import Derived.Test.YtajfhpaokbgmeaaChecked
import GoSem.Claim
import GoSem.ClaimJoined
import GoSem.ClaimMapViews
import Derived.JoinedTies
import Derived.KernelRfl
namespace Go.Proofs.Ytajfhpaokbgmeaa
/- THE CELL 'sum', in the pinned program and in every row, IS THE sha256 OF THE DUMP (.gsa) THAT YtajfhpaokbgmeaaProg.lean LOADS. Nothing in Lean hashes anything: it is a label: what it is worth is what the hold of that sum in a sandbox is worth. -/
noncomputable def Try.pinned : Pinned := { name := "ytajfhpaokbgmeaa", sum := "1dcc9621d330b8c73551618566e4f72091c9e07ebe332fad7f13287786dce442", checked := Try.checked }
namespace Rows
def none {H : Type} : Left H := { results := [], args := [] }

/-- 'laws.FnExactDiskOk': WHATEVER THE INPUT: true; the input reads as it did. -/
def fnExactDiskOkSpec : ChangeSpec := { name := "fnExactDiskOk", fn := fun _ => fun
  | [d] => { results := [.lit (.bool true)], args := [d] }
  | _ => none }
def fnExactDiskOkRow : OpenClaim := { program := "ytajfhpaokbgmeaa", sum := "1dcc9621d330b8c73551618566e4f72091c9e07ebe332fad7f13287786dce442", func := "loop.example/fossick/laws.FnExactDiskOk", spec := "fnExactDiskOk", apart := false }
def FnExactDiskOkSaid : Prop := fnExactDiskOkRow.holds Try.pinned (OpenSpec.ofChange fnExactDiskOkSpec)

/-- ITS FALSE NEIGHBOUR: 'it returns false'. Refute it at one input. -/
def fnExactDiskOkWrong : ChangeSpec := { name := "fnExactDiskOk", fn := fun _ => fun
  | [d] => { results := [.lit (.bool false)], args := [d] }
  | _ => none }
def FnExactDiskOkWrongFalsely : Prop := fnExactDiskOkRow.holds Try.pinned (OpenSpec.ofChange fnExactDiskOkWrong)

/-- 'laws.FnShardOf': WHATEVER THE INPUT: true; the input reads as it did. -/
def fnShardOfSpec : ChangeSpec := { name := "fnShardOf", fn := fun _ => fun
  | [d] => { results := [.lit (.bool true)], args := [d] }
  | _ => none }
def fnShardOfRow : OpenClaim := { program := "ytajfhpaokbgmeaa", sum := "1dcc9621d330b8c73551618566e4f72091c9e07ebe332fad7f13287786dce442", func := "loop.example/fossick/laws.FnShardOf", spec := "fnShardOf", apart := false }
def FnShardOfSaid : Prop := fnShardOfRow.holds Try.pinned (OpenSpec.ofChange fnShardOfSpec)

/-- ITS FALSE NEIGHBOUR: 'it returns false'. Refute it at one input. -/
def fnShardOfWrong : ChangeSpec := { name := "fnShardOf", fn := fun _ => fun
  | [d] => { results := [.lit (.bool false)], args := [d] }
  | _ => none }
def FnShardOfWrongFalsely : Prop := fnShardOfRow.holds Try.pinned (OpenSpec.ofChange fnShardOfWrong)

/-- 'laws.FnGlobHead': WHATEVER THE INPUT: true; the input reads as it did. -/
def fnGlobHeadSpec : ChangeSpec := { name := "fnGlobHead", fn := fun _ => fun
  | [d1, d2] => { results := [.lit (.bool true)], args := [d1, d2] }
  | _ => none }
def fnGlobHeadRow : OpenClaim := { program := "ytajfhpaokbgmeaa", sum := "1dcc9621d330b8c73551618566e4f72091c9e07ebe332fad7f13287786dce442", func := "loop.example/fossick/laws.FnGlobHead", spec := "fnGlobHead", unfollowed := true, recurses := true, apart := false }
def FnGlobHeadSaid : Prop := fnGlobHeadRow.holds Try.pinned (OpenSpec.ofChange fnGlobHeadSpec)

/-- ITS FALSE NEIGHBOUR: 'it returns false'. Refute it at one input. -/
def fnGlobHeadWrong : ChangeSpec := { name := "fnGlobHead", fn := fun _ => fun
  | [d1, d2] => { results := [.lit (.bool false)], args := [d1, d2] }
  | _ => none }
def FnGlobHeadWrongFalsely : Prop := fnGlobHeadRow.holds Try.pinned (OpenSpec.ofChange fnGlobHeadWrong)

/-- 'laws.FnExactShardOf': WHATEVER THE INPUT: true; the input reads as it did. -/
def fnExactShardOfSpec : ChangeSpec := { name := "fnExactShardOf", fn := fun _ => fun
  | [d1, d2, d3] => { results := [.lit (.bool true)], args := [d1, d2, d3] }
  | _ => none }
def fnExactShardOfRow : OpenClaim := { program := "ytajfhpaokbgmeaa", sum := "1dcc9621d330b8c73551618566e4f72091c9e07ebe332fad7f13287786dce442", func := "loop.example/fossick/laws.FnExactShardOf", spec := "fnExactShardOf", apart := false }
def FnExactShardOfSaid : Prop := fnExactShardOfRow.holds Try.pinned (OpenSpec.ofChange fnExactShardOfSpec)

/-- ITS FALSE NEIGHBOUR: 'it returns false'. Refute it at one input. -/
def fnExactShardOfWrong : ChangeSpec := { name := "fnExactShardOf", fn := fun _ => fun
  | [d1, d2, d3] => { results := [.lit (.bool false)], args := [d1, d2, d3] }
  | _ => none }
def FnExactShardOfWrongFalsely : Prop := fnExactShardOfRow.holds Try.pinned (OpenSpec.ofChange fnExactShardOfWrong)

/-- 'laws.FnTopMerge': WHATEVER THE INPUT: true; the input reads as it did. -/
def fnTopMergeSpec : ChangeSpec := { name := "fnTopMerge", fn := fun _ => fun
  | [d] => { results := [.lit (.bool true)], args := [d] }
  | _ => none }
def fnTopMergeRow : OpenClaim := { program := "ytajfhpaokbgmeaa", sum := "1dcc9621d330b8c73551618566e4f72091c9e07ebe332fad7f13287786dce442", func := "loop.example/fossick/laws.FnTopMerge", spec := "fnTopMerge", unfollowed := true, recurses := true, apart := false }
def FnTopMergeSaid : Prop := fnTopMergeRow.holds Try.pinned (OpenSpec.ofChange fnTopMergeSpec)

/-- ITS FALSE NEIGHBOUR: 'it returns false'. Refute it at one input. -/
def fnTopMergeWrong : ChangeSpec := { name := "fnTopMerge", fn := fun _ => fun
  | [d] => { results := [.lit (.bool false)], args := [d] }
  | _ => none }
def FnTopMergeWrongFalsely : Prop := fnTopMergeRow.holds Try.pinned (OpenSpec.ofChange fnTopMergeWrong)

/-- 'laws.FnExactTopMerge': WHATEVER THE INPUT: true; the input reads as it did. -/
def fnExactTopMergeSpec : ChangeSpec := { name := "fnExactTopMerge", fn := fun _ => fun
  | [d1, d2] => { results := [.lit (.bool true)], args := [d1, d2] }
  | _ => none }
def fnExactTopMergeRow : OpenClaim := { program := "ytajfhpaokbgmeaa", sum := "1dcc9621d330b8c73551618566e4f72091c9e07ebe332fad7f13287786dce442", func := "loop.example/fossick/laws.FnExactTopMerge", spec := "fnExactTopMerge", unfollowed := true, recurses := true, apart := false }
def FnExactTopMergeSaid : Prop := fnExactTopMergeRow.holds Try.pinned (OpenSpec.ofChange fnExactTopMergeSpec)

/-- ITS FALSE NEIGHBOUR: 'it returns false'. Refute it at one input. -/
def fnExactTopMergeWrong : ChangeSpec := { name := "fnExactTopMerge", fn := fun _ => fun
  | [d1, d2] => { results := [.lit (.bool false)], args := [d1, d2] }
  | _ => none }
def FnExactTopMergeWrongFalsely : Prop := fnExactTopMergeRow.holds Try.pinned (OpenSpec.ofChange fnExactTopMergeWrong)

/- THE SECOND FORM. 'bulk': how many values and letters a reading holds, each counted each time it is reached (what is shared counts as often as it is met; a slice's spare places count too). A statement '..UptoSaid' is the law's where the arguments, and the package variables that the reading takes, are together of bulk at most 1048576: NARROWER than '..Said'. Prove '..Said' where nothing that the law and all that it calls make is longer than what came in: it says more and counts as full. Else prove '..UptoSaid'. A law counts once. -/
mutual
def uptoBulk {H : Type} : DataW H → Nat
  | .lit (.string bytes) => bytes.length + 1
  | .lit _ => 1
  | .nil => 1
  | .ptr d => uptoBulk d + 1
  | .slice elems spare => uptoBulkAll elems + uptoBulkAll spare + 1
  | .agg parts => uptoBulkAll parts + 1
  | .iface _ d => uptoBulk d + 1
  | .map entries => uptoBulkEntries entries + 1
  | .held _ => 1
def uptoBulkAll {H : Type} : List (DataW H) → Nat
  | [] => 0
  | d :: r => uptoBulk d + uptoBulkAll r
def uptoBulkEntries {H : Type} : List (Lit × DataW H) → Nat
  | [] => 0
  | x :: r => uptoBulkEntry x + uptoBulkEntries r
def uptoBulkEntry {H : Type} : Lit × DataW H → Nat
  | (.string bytes, d) => bytes.length + uptoBulk d + 1
  | (_, d) => uptoBulk d + 1
 end
def uptoSmall : (H : Type) → List (DataW H) → Bool := fun _ ds => decide (uptoBulkAll ds ≤ 1048576)
def OpenSpec.upto (s : _root_.Go.ChangeSpec) : _root_.Go.OpenSpec := { _root_.Go.OpenSpec.ofChange s with cond := some uptoSmall }

/-- 'laws.FnExactDiskOk', WHERE WHAT IT READS IS OF BULK AT MOST 1048576: true; the input reads as it did. -/
def fnExactDiskOkUptoRow : OpenClaim := { program := "ytajfhpaokbgmeaa", sum := "1dcc9621d330b8c73551618566e4f72091c9e07ebe332fad7f13287786dce442", func := "loop.example/fossick/laws.FnExactDiskOk", spec := "fnExactDiskOk", apart := false, narrowed := true }
def FnExactDiskOkUptoSaid : Prop := fnExactDiskOkUptoRow.holds Try.pinned (OpenSpec.upto fnExactDiskOkSpec)

/-- 'laws.FnShardOf', WHERE WHAT IT READS IS OF BULK AT MOST 1048576: true; the input reads as it did. -/
def fnShardOfUptoRow : OpenClaim := { program := "ytajfhpaokbgmeaa", sum := "1dcc9621d330b8c73551618566e4f72091c9e07ebe332fad7f13287786dce442", func := "loop.example/fossick/laws.FnShardOf", spec := "fnShardOf", apart := false, narrowed := true }
def FnShardOfUptoSaid : Prop := fnShardOfUptoRow.holds Try.pinned (OpenSpec.upto fnShardOfSpec)

/-- 'laws.FnGlobHead', WHERE WHAT IT READS IS OF BULK AT MOST 1048576: true; the input reads as it did. -/
def fnGlobHeadUptoRow : OpenClaim := { program := "ytajfhpaokbgmeaa", sum := "1dcc9621d330b8c73551618566e4f72091c9e07ebe332fad7f13287786dce442", func := "loop.example/fossick/laws.FnGlobHead", spec := "fnGlobHead", unfollowed := true, recurses := true, apart := false, narrowed := true }
def FnGlobHeadUptoSaid : Prop := fnGlobHeadUptoRow.holds Try.pinned (OpenSpec.upto fnGlobHeadSpec)

/-- 'laws.FnExactShardOf', WHERE WHAT IT READS IS OF BULK AT MOST 1048576: true; the input reads as it did. -/
def fnExactShardOfUptoRow : OpenClaim := { program := "ytajfhpaokbgmeaa", sum := "1dcc9621d330b8c73551618566e4f72091c9e07ebe332fad7f13287786dce442", func := "loop.example/fossick/laws.FnExactShardOf", spec := "fnExactShardOf", apart := false, narrowed := true }
def FnExactShardOfUptoSaid : Prop := fnExactShardOfUptoRow.holds Try.pinned (OpenSpec.upto fnExactShardOfSpec)

/-- 'laws.FnTopMerge', WHERE WHAT IT READS IS OF BULK AT MOST 1048576: true; the input reads as it did. -/
def fnTopMergeUptoRow : OpenClaim := { program := "ytajfhpaokbgmeaa", sum := "1dcc9621d330b8c73551618566e4f72091c9e07ebe332fad7f13287786dce442", func := "loop.example/fossick/laws.FnTopMerge", spec := "fnTopMerge", unfollowed := true, recurses := true, apart := false, narrowed := true }
def FnTopMergeUptoSaid : Prop := fnTopMergeUptoRow.holds Try.pinned (OpenSpec.upto fnTopMergeSpec)

/-- 'laws.FnExactTopMerge', WHERE WHAT IT READS IS OF BULK AT MOST 1048576: true; the input reads as it did. -/
def fnExactTopMergeUptoRow : OpenClaim := { program := "ytajfhpaokbgmeaa", sum := "1dcc9621d330b8c73551618566e4f72091c9e07ebe332fad7f13287786dce442", func := "loop.example/fossick/laws.FnExactTopMerge", spec := "fnExactTopMerge", unfollowed := true, recurses := true, apart := false, narrowed := true }
def FnExactTopMergeUptoSaid : Prop := fnExactTopMergeUptoRow.holds Try.pinned (OpenSpec.upto fnExactTopMergeSpec)

end Rows
end Go.Proofs.Ytajfhpaokbgmeaa
