/-
  No cell of these rows narrows 'for every input' (looked for: loops, veiled, ifaces, maps, wideKeys, modest, calm, conditions, laid).
  DERIVED. THE GIVEN ROWS OF THIS SEAT. 12 by the template 'for every input the law returns true; each argument reads behind the call as it read before'; 0 by the template 'total and deterministic' (their statements: YtdopcpaapniioaaTotals.lean).
  GIVEN WITH THE SEED: the statements are not yours to turn. If you find one false, say at which input.
  Laid BY PROGRAM, IN A SANDBOX (cutbox-rows.mjs): the forced cells as the released guide's own fill.sh prints them over the translation fbf194f9c891b93f… (all of the seat's roots in one cut). By AI agents, Wed Nov 11 2026. No macro, syntax, notation, axiom, sorry.
-/
import Derived.Test.YtdopcpaapniioaaChecked
import GoSem.Claim
import GoSem.ClaimJoined
import GoSem.ClaimMapViews
import Derived.JoinedTies
import Derived.KernelRfl
namespace Go.Proofs.Ytdopcpaapniioaa
/- THE CELL 'sum', in the pinned program and in every row, IS THE sha256 OF THE DUMP (.gsa) THAT YtdopcpaapniioaaProg.lean LOADS. Nothing in Lean hashes anything: it is a label: what it is worth is what the hold of that sum in a sandbox is worth. -/
noncomputable def Try.pinned : Pinned := { name := "ytdopcpaapniioaa", sum := "fbf194f9c891b93f51816c8024e9c601cef07a8fa1c5ad5ecf5a20cf8904de76", checked := Try.checked }
namespace Rows
def none {H : Type} : Left H := { results := [], args := [] }

/-- 'laws.FnCrc': WHATEVER THE INPUT: true; the input reads as it did. -/
def fnCrcSpec : ChangeSpec := { name := "fnCrc", fn := fun _ => fun
  | [d1, d2] => { results := [.lit (.bool true)], args := [d1, d2] }
  | _ => none }
def fnCrcRow : OpenClaim := { program := "ytdopcpaapniioaa", sum := "fbf194f9c891b93f51816c8024e9c601cef07a8fa1c5ad5ecf5a20cf8904de76", func := "loop.example/fossick/laws.FnCrc", spec := "fnCrc", apart := false }
def FnCrcSaid : Prop := fnCrcRow.holds Try.pinned (OpenSpec.ofChange fnCrcSpec)

/-- ITS FALSE NEIGHBOUR: 'it returns false'. Refute it at one input. -/
def fnCrcWrong : ChangeSpec := { name := "fnCrc", fn := fun _ => fun
  | [d1, d2] => { results := [.lit (.bool false)], args := [d1, d2] }
  | _ => none }
def FnCrcWrongFalsely : Prop := fnCrcRow.holds Try.pinned (OpenSpec.ofChange fnCrcWrong)

/-- 'laws.FnDawgLeast': WHATEVER THE INPUT: true; the input reads as it did. -/
def fnDawgLeastSpec : ChangeSpec := { name := "fnDawgLeast", fn := fun _ => fun
  | [d] => { results := [.lit (.bool true)], args := [d] }
  | _ => none }
def fnDawgLeastRow : OpenClaim := { program := "ytdopcpaapniioaa", sum := "fbf194f9c891b93f51816c8024e9c601cef07a8fa1c5ad5ecf5a20cf8904de76", func := "loop.example/fossick/laws.FnDawgLeast", spec := "fnDawgLeast", recurses := true, apart := false }
def FnDawgLeastSaid : Prop := fnDawgLeastRow.holds Try.pinned (OpenSpec.ofChange fnDawgLeastSpec)

/-- ITS FALSE NEIGHBOUR: 'it returns false'. Refute it at one input. -/
def fnDawgLeastWrong : ChangeSpec := { name := "fnDawgLeast", fn := fun _ => fun
  | [d] => { results := [.lit (.bool false)], args := [d] }
  | _ => none }
def FnDawgLeastWrongFalsely : Prop := fnDawgLeastRow.holds Try.pinned (OpenSpec.ofChange fnDawgLeastWrong)

/-- 'laws.FnExactDawgOf': WHATEVER THE INPUT: true; the input reads as it did. -/
def fnExactDawgOfSpec : ChangeSpec := { name := "fnExactDawgOf", fn := fun _ => fun
  | [d] => { results := [.lit (.bool true)], args := [d] }
  | _ => none }
def fnExactDawgOfRow : OpenClaim := { program := "ytdopcpaapniioaa", sum := "fbf194f9c891b93f51816c8024e9c601cef07a8fa1c5ad5ecf5a20cf8904de76", func := "loop.example/fossick/laws.FnExactDawgOf", spec := "fnExactDawgOf", recurses := true, apart := false }
def FnExactDawgOfSaid : Prop := fnExactDawgOfRow.holds Try.pinned (OpenSpec.ofChange fnExactDawgOfSpec)

/-- ITS FALSE NEIGHBOUR: 'it returns false'. Refute it at one input. -/
def fnExactDawgOfWrong : ChangeSpec := { name := "fnExactDawgOf", fn := fun _ => fun
  | [d] => { results := [.lit (.bool false)], args := [d] }
  | _ => none }
def FnExactDawgOfWrongFalsely : Prop := fnExactDawgOfRow.holds Try.pinned (OpenSpec.ofChange fnExactDawgOfWrong)

/-- 'laws.FnDawgMore': WHATEVER THE INPUT: true; the input reads as it did. -/
def fnDawgMoreSpec : ChangeSpec := { name := "fnDawgMore", fn := fun _ => fun
  | [d1, d2] => { results := [.lit (.bool true)], args := [d1, d2] }
  | _ => none }
def fnDawgMoreRow : OpenClaim := { program := "ytdopcpaapniioaa", sum := "fbf194f9c891b93f51816c8024e9c601cef07a8fa1c5ad5ecf5a20cf8904de76", func := "loop.example/fossick/laws.FnDawgMore", spec := "fnDawgMore", unfollowed := true, recurses := true, apart := false }
def FnDawgMoreSaid : Prop := fnDawgMoreRow.holds Try.pinned (OpenSpec.ofChange fnDawgMoreSpec)

/-- ITS FALSE NEIGHBOUR: 'it returns false'. Refute it at one input. -/
def fnDawgMoreWrong : ChangeSpec := { name := "fnDawgMore", fn := fun _ => fun
  | [d1, d2] => { results := [.lit (.bool false)], args := [d1, d2] }
  | _ => none }
def FnDawgMoreWrongFalsely : Prop := fnDawgMoreRow.holds Try.pinned (OpenSpec.ofChange fnDawgMoreWrong)

/-- 'laws.FnDawgOf': WHATEVER THE INPUT: true; the input reads as it did. -/
def fnDawgOfSpec : ChangeSpec := { name := "fnDawgOf", fn := fun _ => fun
  | [d] => { results := [.lit (.bool true)], args := [d] }
  | _ => none }
def fnDawgOfRow : OpenClaim := { program := "ytdopcpaapniioaa", sum := "fbf194f9c891b93f51816c8024e9c601cef07a8fa1c5ad5ecf5a20cf8904de76", func := "loop.example/fossick/laws.FnDawgOf", spec := "fnDawgOf", unfollowed := true, recurses := true, apart := false }
def FnDawgOfSaid : Prop := fnDawgOfRow.holds Try.pinned (OpenSpec.ofChange fnDawgOfSpec)

/-- ITS FALSE NEIGHBOUR: 'it returns false'. Refute it at one input. -/
def fnDawgOfWrong : ChangeSpec := { name := "fnDawgOf", fn := fun _ => fun
  | [d] => { results := [.lit (.bool false)], args := [d] }
  | _ => none }
def FnDawgOfWrongFalsely : Prop := fnDawgOfRow.holds Try.pinned (OpenSpec.ofChange fnDawgOfWrong)

/-- 'laws.FnDawgAt': WHATEVER THE INPUT: true; the input reads as it did. -/
def fnDawgAtSpec : ChangeSpec := { name := "fnDawgAt", fn := fun _ => fun
  | [d] => { results := [.lit (.bool true)], args := [d] }
  | _ => none }
def fnDawgAtRow : OpenClaim := { program := "ytdopcpaapniioaa", sum := "fbf194f9c891b93f51816c8024e9c601cef07a8fa1c5ad5ecf5a20cf8904de76", func := "loop.example/fossick/laws.FnDawgAt", spec := "fnDawgAt", unfollowed := true, recurses := true, apart := false }
def FnDawgAtSaid : Prop := fnDawgAtRow.holds Try.pinned (OpenSpec.ofChange fnDawgAtSpec)

/-- ITS FALSE NEIGHBOUR: 'it returns false'. Refute it at one input. -/
def fnDawgAtWrong : ChangeSpec := { name := "fnDawgAt", fn := fun _ => fun
  | [d] => { results := [.lit (.bool false)], args := [d] }
  | _ => none }
def FnDawgAtWrongFalsely : Prop := fnDawgAtRow.holds Try.pinned (OpenSpec.ofChange fnDawgAtWrong)

/-- 'laws.FnExactDawgOk': WHATEVER THE INPUT: true; the input reads as it did. -/
def fnExactDawgOkSpec : ChangeSpec := { name := "fnExactDawgOk", fn := fun _ => fun
  | [d] => { results := [.lit (.bool true)], args := [d] }
  | _ => none }
def fnExactDawgOkRow : OpenClaim := { program := "ytdopcpaapniioaa", sum := "fbf194f9c891b93f51816c8024e9c601cef07a8fa1c5ad5ecf5a20cf8904de76", func := "loop.example/fossick/laws.FnExactDawgOk", spec := "fnExactDawgOk", unfollowed := true, recurses := true, apart := false }
def FnExactDawgOkSaid : Prop := fnExactDawgOkRow.holds Try.pinned (OpenSpec.ofChange fnExactDawgOkSpec)

/-- ITS FALSE NEIGHBOUR: 'it returns false'. Refute it at one input. -/
def fnExactDawgOkWrong : ChangeSpec := { name := "fnExactDawgOk", fn := fun _ => fun
  | [d] => { results := [.lit (.bool false)], args := [d] }
  | _ => none }
def FnExactDawgOkWrongFalsely : Prop := fnExactDawgOkRow.holds Try.pinned (OpenSpec.ofChange fnExactDawgOkWrong)

/-- 'laws.FnExactDawgAt': WHATEVER THE INPUT: true; the input reads as it did. -/
def fnExactDawgAtSpec : ChangeSpec := { name := "fnExactDawgAt", fn := fun _ => fun
  | [d1, d2] => { results := [.lit (.bool true)], args := [d1, d2] }
  | _ => none }
def fnExactDawgAtRow : OpenClaim := { program := "ytdopcpaapniioaa", sum := "fbf194f9c891b93f51816c8024e9c601cef07a8fa1c5ad5ecf5a20cf8904de76", func := "loop.example/fossick/laws.FnExactDawgAt", spec := "fnExactDawgAt", unfollowed := true, recurses := true, apart := false }
def FnExactDawgAtSaid : Prop := fnExactDawgAtRow.holds Try.pinned (OpenSpec.ofChange fnExactDawgAtSpec)

/-- ITS FALSE NEIGHBOUR: 'it returns false'. Refute it at one input. -/
def fnExactDawgAtWrong : ChangeSpec := { name := "fnExactDawgAt", fn := fun _ => fun
  | [d1, d2] => { results := [.lit (.bool false)], args := [d1, d2] }
  | _ => none }
def FnExactDawgAtWrongFalsely : Prop := fnExactDawgAtRow.holds Try.pinned (OpenSpec.ofChange fnExactDawgAtWrong)

/-- 'laws.FnDawgHead': WHATEVER THE INPUT: true; the input reads as it did. -/
def fnDawgHeadSpec : ChangeSpec := { name := "fnDawgHead", fn := fun _ => fun
  | [d] => { results := [.lit (.bool true)], args := [d] }
  | _ => none }
def fnDawgHeadRow : OpenClaim := { program := "ytdopcpaapniioaa", sum := "fbf194f9c891b93f51816c8024e9c601cef07a8fa1c5ad5ecf5a20cf8904de76", func := "loop.example/fossick/laws.FnDawgHead", spec := "fnDawgHead", unfollowed := true, recurses := true, apart := false }
def FnDawgHeadSaid : Prop := fnDawgHeadRow.holds Try.pinned (OpenSpec.ofChange fnDawgHeadSpec)

/-- ITS FALSE NEIGHBOUR: 'it returns false'. Refute it at one input. -/
def fnDawgHeadWrong : ChangeSpec := { name := "fnDawgHead", fn := fun _ => fun
  | [d] => { results := [.lit (.bool false)], args := [d] }
  | _ => none }
def FnDawgHeadWrongFalsely : Prop := fnDawgHeadRow.holds Try.pinned (OpenSpec.ofChange fnDawgHeadWrong)

/-- 'laws.FnExactDawgRank': WHATEVER THE INPUT: true; the input reads as it did. -/
def fnExactDawgRankSpec : ChangeSpec := { name := "fnExactDawgRank", fn := fun _ => fun
  | [d1, d2] => { results := [.lit (.bool true)], args := [d1, d2] }
  | _ => none }
def fnExactDawgRankRow : OpenClaim := { program := "ytdopcpaapniioaa", sum := "fbf194f9c891b93f51816c8024e9c601cef07a8fa1c5ad5ecf5a20cf8904de76", func := "loop.example/fossick/laws.FnExactDawgRank", spec := "fnExactDawgRank", unfollowed := true, recurses := true, apart := false }
def FnExactDawgRankSaid : Prop := fnExactDawgRankRow.holds Try.pinned (OpenSpec.ofChange fnExactDawgRankSpec)

/-- ITS FALSE NEIGHBOUR: 'it returns false'. Refute it at one input. -/
def fnExactDawgRankWrong : ChangeSpec := { name := "fnExactDawgRank", fn := fun _ => fun
  | [d1, d2] => { results := [.lit (.bool false)], args := [d1, d2] }
  | _ => none }
def FnExactDawgRankWrongFalsely : Prop := fnExactDawgRankRow.holds Try.pinned (OpenSpec.ofChange fnExactDawgRankWrong)

/-- 'laws.FnDawgRank': WHATEVER THE INPUT: true; the input reads as it did. -/
def fnDawgRankSpec : ChangeSpec := { name := "fnDawgRank", fn := fun _ => fun
  | [d] => { results := [.lit (.bool true)], args := [d] }
  | _ => none }
def fnDawgRankRow : OpenClaim := { program := "ytdopcpaapniioaa", sum := "fbf194f9c891b93f51816c8024e9c601cef07a8fa1c5ad5ecf5a20cf8904de76", func := "loop.example/fossick/laws.FnDawgRank", spec := "fnDawgRank", unfollowed := true, recurses := true, apart := false }
def FnDawgRankSaid : Prop := fnDawgRankRow.holds Try.pinned (OpenSpec.ofChange fnDawgRankSpec)

/-- ITS FALSE NEIGHBOUR: 'it returns false'. Refute it at one input. -/
def fnDawgRankWrong : ChangeSpec := { name := "fnDawgRank", fn := fun _ => fun
  | [d] => { results := [.lit (.bool false)], args := [d] }
  | _ => none }
def FnDawgRankWrongFalsely : Prop := fnDawgRankRow.holds Try.pinned (OpenSpec.ofChange fnDawgRankWrong)

/-- 'laws.FnExactDawgHead': WHATEVER THE INPUT: true; the input reads as it did. -/
def fnExactDawgHeadSpec : ChangeSpec := { name := "fnExactDawgHead", fn := fun _ => fun
  | [d1, d2] => { results := [.lit (.bool true)], args := [d1, d2] }
  | _ => none }
def fnExactDawgHeadRow : OpenClaim := { program := "ytdopcpaapniioaa", sum := "fbf194f9c891b93f51816c8024e9c601cef07a8fa1c5ad5ecf5a20cf8904de76", func := "loop.example/fossick/laws.FnExactDawgHead", spec := "fnExactDawgHead", unfollowed := true, recurses := true, apart := false }
def FnExactDawgHeadSaid : Prop := fnExactDawgHeadRow.holds Try.pinned (OpenSpec.ofChange fnExactDawgHeadSpec)

/-- ITS FALSE NEIGHBOUR: 'it returns false'. Refute it at one input. -/
def fnExactDawgHeadWrong : ChangeSpec := { name := "fnExactDawgHead", fn := fun _ => fun
  | [d1, d2] => { results := [.lit (.bool false)], args := [d1, d2] }
  | _ => none }
def FnExactDawgHeadWrongFalsely : Prop := fnExactDawgHeadRow.holds Try.pinned (OpenSpec.ofChange fnExactDawgHeadWrong)

/- THE SECOND FORM. 'bulk': how many values and letters a reading holds, each counted each time it is reached (what is shared counts as often as it is met; a slice's spare places count too). A statement '..UptoSaid' is the law's where the arguments, and the package variables that the reading takes, are together of bulk at most 1048576: NARROWER than '..Said'. Prove '..Said' where nothing that the law and all that it calls make is longer than what came in: it says more and counts as full. Else prove '..UptoSaid'. A law counts once. -/
mutual
def uptoBulk {H : Type} : DataW H → Nat
  | .lit (.string bytes) => bytes.length + 1
  | .lit _ => 1
  | .nil => 1
  | .ptr d => uptoBulk d + 1
  | .slice elems spare => uptoBulkAll elems + uptoBulkAll spare + 1
  | .agg parts => uptoBulkAll parts + 1
  | .iface _ d => uptoBulk d + 1
  | .map entries => uptoBulkEntries entries + 1
  | .held _ => 1
def uptoBulkAll {H : Type} : List (DataW H) → Nat
  | [] => 0
  | d :: r => uptoBulk d + uptoBulkAll r
def uptoBulkEntries {H : Type} : List (Lit × DataW H) → Nat
  | [] => 0
  | x :: r => uptoBulkEntry x + uptoBulkEntries r
def uptoBulkEntry {H : Type} : Lit × DataW H → Nat
  | (.string bytes, d) => bytes.length + uptoBulk d + 1
  | (_, d) => uptoBulk d + 1
 end
def uptoSmall : (H : Type) → List (DataW H) → Bool := fun _ ds => decide (uptoBulkAll ds ≤ 1048576)
def OpenSpec.upto (s : _root_.Go.ChangeSpec) : _root_.Go.OpenSpec := { _root_.Go.OpenSpec.ofChange s with cond := some uptoSmall }

/-- 'laws.FnCrc', WHERE WHAT IT READS IS OF BULK AT MOST 1048576: true; the input reads as it did. -/
def fnCrcUptoRow : OpenClaim := { program := "ytdopcpaapniioaa", sum := "fbf194f9c891b93f51816c8024e9c601cef07a8fa1c5ad5ecf5a20cf8904de76", func := "loop.example/fossick/laws.FnCrc", spec := "fnCrc", apart := false, narrowed := true }
def FnCrcUptoSaid : Prop := fnCrcUptoRow.holds Try.pinned (OpenSpec.upto fnCrcSpec)

/-- 'laws.FnDawgLeast', WHERE WHAT IT READS IS OF BULK AT MOST 1048576: true; the input reads as it did. -/
def fnDawgLeastUptoRow : OpenClaim := { program := "ytdopcpaapniioaa", sum := "fbf194f9c891b93f51816c8024e9c601cef07a8fa1c5ad5ecf5a20cf8904de76", func := "loop.example/fossick/laws.FnDawgLeast", spec := "fnDawgLeast", recurses := true, apart := false, narrowed := true }
def FnDawgLeastUptoSaid : Prop := fnDawgLeastUptoRow.holds Try.pinned (OpenSpec.upto fnDawgLeastSpec)

/-- 'laws.FnExactDawgOf', WHERE WHAT IT READS IS OF BULK AT MOST 1048576: true; the input reads as it did. -/
def fnExactDawgOfUptoRow : OpenClaim := { program := "ytdopcpaapniioaa", sum := "fbf194f9c891b93f51816c8024e9c601cef07a8fa1c5ad5ecf5a20cf8904de76", func := "loop.example/fossick/laws.FnExactDawgOf", spec := "fnExactDawgOf", recurses := true, apart := false, narrowed := true }
def FnExactDawgOfUptoSaid : Prop := fnExactDawgOfUptoRow.holds Try.pinned (OpenSpec.upto fnExactDawgOfSpec)

/-- 'laws.FnDawgMore', WHERE WHAT IT READS IS OF BULK AT MOST 1048576: true; the input reads as it did. -/
def fnDawgMoreUptoRow : OpenClaim := { program := "ytdopcpaapniioaa", sum := "fbf194f9c891b93f51816c8024e9c601cef07a8fa1c5ad5ecf5a20cf8904de76", func := "loop.example/fossick/laws.FnDawgMore", spec := "fnDawgMore", unfollowed := true, recurses := true, apart := false, narrowed := true }
def FnDawgMoreUptoSaid : Prop := fnDawgMoreUptoRow.holds Try.pinned (OpenSpec.upto fnDawgMoreSpec)

/-- 'laws.FnDawgOf', WHERE WHAT IT READS IS OF BULK AT MOST 1048576: true; the input reads as it did. -/
def fnDawgOfUptoRow : OpenClaim := { program := "ytdopcpaapniioaa", sum := "fbf194f9c891b93f51816c8024e9c601cef07a8fa1c5ad5ecf5a20cf8904de76", func := "loop.example/fossick/laws.FnDawgOf", spec := "fnDawgOf", unfollowed := true, recurses := true, apart := false, narrowed := true }
def FnDawgOfUptoSaid : Prop := fnDawgOfUptoRow.holds Try.pinned (OpenSpec.upto fnDawgOfSpec)

/-- 'laws.FnDawgAt', WHERE WHAT IT READS IS OF BULK AT MOST 1048576: true; the input reads as it did. -/
def fnDawgAtUptoRow : OpenClaim := { program := "ytdopcpaapniioaa", sum := "fbf194f9c891b93f51816c8024e9c601cef07a8fa1c5ad5ecf5a20cf8904de76", func := "loop.example/fossick/laws.FnDawgAt", spec := "fnDawgAt", unfollowed := true, recurses := true, apart := false, narrowed := true }
def FnDawgAtUptoSaid : Prop := fnDawgAtUptoRow.holds Try.pinned (OpenSpec.upto fnDawgAtSpec)

/-- 'laws.FnExactDawgOk', WHERE WHAT IT READS IS OF BULK AT MOST 1048576: true; the input reads as it did. -/
def fnExactDawgOkUptoRow : OpenClaim := { program := "ytdopcpaapniioaa", sum := "fbf194f9c891b93f51816c8024e9c601cef07a8fa1c5ad5ecf5a20cf8904de76", func := "loop.example/fossick/laws.FnExactDawgOk", spec := "fnExactDawgOk", unfollowed := true, recurses := true, apart := false, narrowed := true }
def FnExactDawgOkUptoSaid : Prop := fnExactDawgOkUptoRow.holds Try.pinned (OpenSpec.upto fnExactDawgOkSpec)

/-- 'laws.FnExactDawgAt', WHERE WHAT IT READS IS OF BULK AT MOST 1048576: true; the input reads as it did. -/
def fnExactDawgAtUptoRow : OpenClaim := { program := "ytdopcpaapniioaa", sum := "fbf194f9c891b93f51816c8024e9c601cef07a8fa1c5ad5ecf5a20cf8904de76", func := "loop.example/fossick/laws.FnExactDawgAt", spec := "fnExactDawgAt", unfollowed := true, recurses := true, apart := false, narrowed := true }
def FnExactDawgAtUptoSaid : Prop := fnExactDawgAtUptoRow.holds Try.pinned (OpenSpec.upto fnExactDawgAtSpec)

/-- 'laws.FnDawgHead', WHERE WHAT IT READS IS OF BULK AT MOST 1048576: true; the input reads as it did. -/
def fnDawgHeadUptoRow : OpenClaim := { program := "ytdopcpaapniioaa", sum := "fbf194f9c891b93f51816c8024e9c601cef07a8fa1c5ad5ecf5a20cf8904de76", func := "loop.example/fossick/laws.FnDawgHead", spec := "fnDawgHead", unfollowed := true, recurses := true, apart := false, narrowed := true }
def FnDawgHeadUptoSaid : Prop := fnDawgHeadUptoRow.holds Try.pinned (OpenSpec.upto fnDawgHeadSpec)

/-- 'laws.FnExactDawgRank', WHERE WHAT IT READS IS OF BULK AT MOST 1048576: true; the input reads as it did. -/
def fnExactDawgRankUptoRow : OpenClaim := { program := "ytdopcpaapniioaa", sum := "fbf194f9c891b93f51816c8024e9c601cef07a8fa1c5ad5ecf5a20cf8904de76", func := "loop.example/fossick/laws.FnExactDawgRank", spec := "fnExactDawgRank", unfollowed := true, recurses := true, apart := false, narrowed := true }
def FnExactDawgRankUptoSaid : Prop := fnExactDawgRankUptoRow.holds Try.pinned (OpenSpec.upto fnExactDawgRankSpec)

/-- 'laws.FnDawgRank', WHERE WHAT IT READS IS OF BULK AT MOST 1048576: true; the input reads as it did. -/
def fnDawgRankUptoRow : OpenClaim := { program := "ytdopcpaapniioaa", sum := "fbf194f9c891b93f51816c8024e9c601cef07a8fa1c5ad5ecf5a20cf8904de76", func := "loop.example/fossick/laws.FnDawgRank", spec := "fnDawgRank", unfollowed := true, recurses := true, apart := false, narrowed := true }
def FnDawgRankUptoSaid : Prop := fnDawgRankUptoRow.holds Try.pinned (OpenSpec.upto fnDawgRankSpec)

/-- 'laws.FnExactDawgHead', WHERE WHAT IT READS IS OF BULK AT MOST 1048576: true; the input reads as it did. -/
def fnExactDawgHeadUptoRow : OpenClaim := { program := "ytdopcpaapniioaa", sum := "fbf194f9c891b93f51816c8024e9c601cef07a8fa1c5ad5ecf5a20cf8904de76", func := "loop.example/fossick/laws.FnExactDawgHead", spec := "fnExactDawgHead", unfollowed := true, recurses := true, apart := false, narrowed := true }
def FnExactDawgHeadUptoSaid : Prop := fnExactDawgHeadUptoRow.holds Try.pinned (OpenSpec.upto fnExactDawgHeadSpec)

end Rows
end Go.Proofs.Ytdopcpaapniioaa
