/-
  No cell of these rows narrows 'for every input' (looked for: loops, veiled, ifaces, maps, wideKeys, modest, calm, conditions, laid).
  DERIVED. THE GIVEN ROWS OF THIS SEAT. 5 by the template 'for every input the law returns true; each argument reads behind the call as it read before'; 0 by the template 'total and deterministic' (their statements: YtdcmmhjhffcnhaaTotals.lean).
  GIVEN WITH THE SEED: the statements are not yours to turn. If you find one false, say at which input.
  Laid BY PROGRAM, IN A SANDBOX (cutbox-rows.mjs): the forced cells as the released guide's own fill.sh prints them over the translation 62cfbe7641f29d14… (all of the seat's roots in one cut). By AI agents, Wed Nov 11 2026. No macro, syntax, notation, axiom, sorry.
-/
import Derived.Test.YtdcmmhjhffcnhaaChecked
import GoSem.Claim
import GoSem.ClaimJoined
import GoSem.ClaimMapViews
import Derived.JoinedTies
import Derived.KernelRfl
namespace Go.Proofs.Ytdcmmhjhffcnhaa
/- THE CELL 'sum', in the pinned program and in every row, IS THE sha256 OF THE DUMP (.gsa) THAT YtdcmmhjhffcnhaaProg.lean LOADS. Nothing in Lean hashes anything: it is a label: what it is worth is what the hold of that sum in a sandbox is worth. -/
noncomputable def Try.pinned : Pinned := { name := "ytdcmmhjhffcnhaa", sum := "62cfbe7641f29d14ff43df2731275f527cf5dc52a301e687af65972ed39e2459", checked := Try.checked }
namespace Rows
def none {H : Type} : Left H := { results := [], args := [] }

/-- 'laws.FnShardFacet': WHATEVER THE INPUT: true; the input reads as it did. -/
def fnShardFacetSpec : ChangeSpec := { name := "fnShardFacet", fn := fun _ => fun
  | [d] => { results := [.lit (.bool true)], args := [d] }
  | _ => none }
def fnShardFacetRow : OpenClaim := { program := "ytdcmmhjhffcnhaa", sum := "62cfbe7641f29d14ff43df2731275f527cf5dc52a301e687af65972ed39e2459", func := "loop.example/fossick/laws.FnShardFacet", spec := "fnShardFacet", unfollowed := true, recurses := true, apart := false }
def FnShardFacetSaid : Prop := fnShardFacetRow.holds Try.pinned (OpenSpec.ofChange fnShardFacetSpec)

/-- ITS FALSE NEIGHBOUR: 'it returns false'. Refute it at one input. -/
def fnShardFacetWrong : ChangeSpec := { name := "fnShardFacet", fn := fun _ => fun
  | [d] => { results := [.lit (.bool false)], args := [d] }
  | _ => none }
def FnShardFacetWrongFalsely : Prop := fnShardFacetRow.holds Try.pinned (OpenSpec.ofChange fnShardFacetWrong)

/-- 'laws.FnSegLong': WHATEVER THE INPUT: true; the input reads as it did. -/
def fnSegLongSpec : ChangeSpec := { name := "fnSegLong", fn := fun _ => fun
  | [d] => { results := [.lit (.bool true)], args := [d] }
  | _ => none }
def fnSegLongRow : OpenClaim := { program := "ytdcmmhjhffcnhaa", sum := "62cfbe7641f29d14ff43df2731275f527cf5dc52a301e687af65972ed39e2459", func := "loop.example/fossick/laws.FnSegLong", spec := "fnSegLong", unfollowed := true, recurses := true, apart := false }
def FnSegLongSaid : Prop := fnSegLongRow.holds Try.pinned (OpenSpec.ofChange fnSegLongSpec)

/-- ITS FALSE NEIGHBOUR: 'it returns false'. Refute it at one input. -/
def fnSegLongWrong : ChangeSpec := { name := "fnSegLong", fn := fun _ => fun
  | [d] => { results := [.lit (.bool false)], args := [d] }
  | _ => none }
def FnSegLongWrongFalsely : Prop := fnSegLongRow.holds Try.pinned (OpenSpec.ofChange fnSegLongWrong)

/-- 'laws.FnSegOf': WHATEVER THE INPUT: true; the input reads as it did. -/
def fnSegOfSpec : ChangeSpec := { name := "fnSegOf", fn := fun _ => fun
  | [d] => { results := [.lit (.bool true)], args := [d] }
  | _ => none }
def fnSegOfRow : OpenClaim := { program := "ytdcmmhjhffcnhaa", sum := "62cfbe7641f29d14ff43df2731275f527cf5dc52a301e687af65972ed39e2459", func := "loop.example/fossick/laws.FnSegOf", spec := "fnSegOf", unfollowed := true, recurses := true, apart := false }
def FnSegOfSaid : Prop := fnSegOfRow.holds Try.pinned (OpenSpec.ofChange fnSegOfSpec)

/-- ITS FALSE NEIGHBOUR: 'it returns false'. Refute it at one input. -/
def fnSegOfWrong : ChangeSpec := { name := "fnSegOf", fn := fun _ => fun
  | [d] => { results := [.lit (.bool false)], args := [d] }
  | _ => none }
def FnSegOfWrongFalsely : Prop := fnSegOfRow.holds Try.pinned (OpenSpec.ofChange fnSegOfWrong)

/-- 'laws.FnSegFew': WHATEVER THE INPUT: true; the input reads as it did. -/
def fnSegFewSpec : ChangeSpec := { name := "fnSegFew", fn := fun _ => fun
  | [d1, d2] => { results := [.lit (.bool true)], args := [d1, d2] }
  | _ => none }
def fnSegFewRow : OpenClaim := { program := "ytdcmmhjhffcnhaa", sum := "62cfbe7641f29d14ff43df2731275f527cf5dc52a301e687af65972ed39e2459", func := "loop.example/fossick/laws.FnSegFew", spec := "fnSegFew", unfollowed := true, recurses := true, apart := false }
def FnSegFewSaid : Prop := fnSegFewRow.holds Try.pinned (OpenSpec.ofChange fnSegFewSpec)

/-- ITS FALSE NEIGHBOUR: 'it returns false'. Refute it at one input. -/
def fnSegFewWrong : ChangeSpec := { name := "fnSegFew", fn := fun _ => fun
  | [d1, d2] => { results := [.lit (.bool false)], args := [d1, d2] }
  | _ => none }
def FnSegFewWrongFalsely : Prop := fnSegFewRow.holds Try.pinned (OpenSpec.ofChange fnSegFewWrong)

/-- 'laws.FnSegTerms': WHATEVER THE INPUT: true; the input reads as it did. -/
def fnSegTermsSpec : ChangeSpec := { name := "fnSegTerms", fn := fun _ => fun
  | [d] => { results := [.lit (.bool true)], args := [d] }
  | _ => none }
def fnSegTermsRow : OpenClaim := { program := "ytdcmmhjhffcnhaa", sum := "62cfbe7641f29d14ff43df2731275f527cf5dc52a301e687af65972ed39e2459", func := "loop.example/fossick/laws.FnSegTerms", spec := "fnSegTerms", unfollowed := true, recurses := true, apart := false }
def FnSegTermsSaid : Prop := fnSegTermsRow.holds Try.pinned (OpenSpec.ofChange fnSegTermsSpec)

/-- ITS FALSE NEIGHBOUR: 'it returns false'. Refute it at one input. -/
def fnSegTermsWrong : ChangeSpec := { name := "fnSegTerms", fn := fun _ => fun
  | [d] => { results := [.lit (.bool false)], args := [d] }
  | _ => none }
def FnSegTermsWrongFalsely : Prop := fnSegTermsRow.holds Try.pinned (OpenSpec.ofChange fnSegTermsWrong)

/- THE SECOND FORM. 'bulk': how many values and letters a reading holds, each counted each time it is reached (what is shared counts as often as it is met; a slice's spare places count too). A statement '..UptoSaid' is the law's where the arguments, and the package variables that the reading takes, are together of bulk at most 1048576: NARROWER than '..Said'. Prove '..Said' where nothing that the law and all that it calls make is longer than what came in: it says more and counts as full. Else prove '..UptoSaid'. A law counts once. -/
mutual
def uptoBulk {H : Type} : DataW H → Nat
  | .lit (.string bytes) => bytes.length + 1
  | .lit _ => 1
  | .nil => 1
  | .ptr d => uptoBulk d + 1
  | .slice elems spare => uptoBulkAll elems + uptoBulkAll spare + 1
  | .agg parts => uptoBulkAll parts + 1
  | .iface _ d => uptoBulk d + 1
  | .map entries => uptoBulkEntries entries + 1
  | .held _ => 1
def uptoBulkAll {H : Type} : List (DataW H) → Nat
  | [] => 0
  | d :: r => uptoBulk d + uptoBulkAll r
def uptoBulkEntries {H : Type} : List (Lit × DataW H) → Nat
  | [] => 0
  | x :: r => uptoBulkEntry x + uptoBulkEntries r
def uptoBulkEntry {H : Type} : Lit × DataW H → Nat
  | (.string bytes, d) => bytes.length + uptoBulk d + 1
  | (_, d) => uptoBulk d + 1
 end
def uptoSmall : (H : Type) → List (DataW H) → Bool := fun _ ds => decide (uptoBulkAll ds ≤ 1048576)
def OpenSpec.upto (s : _root_.Go.ChangeSpec) : _root_.Go.OpenSpec := { _root_.Go.OpenSpec.ofChange s with cond := some uptoSmall }

/-- 'laws.FnShardFacet', WHERE WHAT IT READS IS OF BULK AT MOST 1048576: true; the input reads as it did. -/
def fnShardFacetUptoRow : OpenClaim := { program := "ytdcmmhjhffcnhaa", sum := "62cfbe7641f29d14ff43df2731275f527cf5dc52a301e687af65972ed39e2459", func := "loop.example/fossick/laws.FnShardFacet", spec := "fnShardFacet", unfollowed := true, recurses := true, apart := false, narrowed := true }
def FnShardFacetUptoSaid : Prop := fnShardFacetUptoRow.holds Try.pinned (OpenSpec.upto fnShardFacetSpec)

/-- 'laws.FnSegLong', WHERE WHAT IT READS IS OF BULK AT MOST 1048576: true; the input reads as it did. -/
def fnSegLongUptoRow : OpenClaim := { program := "ytdcmmhjhffcnhaa", sum := "62cfbe7641f29d14ff43df2731275f527cf5dc52a301e687af65972ed39e2459", func := "loop.example/fossick/laws.FnSegLong", spec := "fnSegLong", unfollowed := true, recurses := true, apart := false, narrowed := true }
def FnSegLongUptoSaid : Prop := fnSegLongUptoRow.holds Try.pinned (OpenSpec.upto fnSegLongSpec)

/-- 'laws.FnSegOf', WHERE WHAT IT READS IS OF BULK AT MOST 1048576: true; the input reads as it did. -/
def fnSegOfUptoRow : OpenClaim := { program := "ytdcmmhjhffcnhaa", sum := "62cfbe7641f29d14ff43df2731275f527cf5dc52a301e687af65972ed39e2459", func := "loop.example/fossick/laws.FnSegOf", spec := "fnSegOf", unfollowed := true, recurses := true, apart := false, narrowed := true }
def FnSegOfUptoSaid : Prop := fnSegOfUptoRow.holds Try.pinned (OpenSpec.upto fnSegOfSpec)

/-- 'laws.FnSegFew', WHERE WHAT IT READS IS OF BULK AT MOST 1048576: true; the input reads as it did. -/
def fnSegFewUptoRow : OpenClaim := { program := "ytdcmmhjhffcnhaa", sum := "62cfbe7641f29d14ff43df2731275f527cf5dc52a301e687af65972ed39e2459", func := "loop.example/fossick/laws.FnSegFew", spec := "fnSegFew", unfollowed := true, recurses := true, apart := false, narrowed := true }
def FnSegFewUptoSaid : Prop := fnSegFewUptoRow.holds Try.pinned (OpenSpec.upto fnSegFewSpec)

/-- 'laws.FnSegTerms', WHERE WHAT IT READS IS OF BULK AT MOST 1048576: true; the input reads as it did. -/
def fnSegTermsUptoRow : OpenClaim := { program := "ytdcmmhjhffcnhaa", sum := "62cfbe7641f29d14ff43df2731275f527cf5dc52a301e687af65972ed39e2459", func := "loop.example/fossick/laws.FnSegTerms", spec := "fnSegTerms", unfollowed := true, recurses := true, apart := false, narrowed := true }
def FnSegTermsUptoSaid : Prop := fnSegTermsUptoRow.holds Try.pinned (OpenSpec.upto fnSegTermsSpec)

end Rows
end Go.Proofs.Ytdcmmhjhffcnhaa
