/-
  No cell of these rows narrows 'for every input' (looked for: loops, veiled, ifaces, maps, wideKeys, modest, calm, conditions, laid).
  DERIVED. THE GIVEN ROWS OF THIS SEAT. 8 by the template 'for every input the law returns true; each argument reads behind the call as it read before'; 0 by the template 'total and deterministic' (their statements: YtpjefkdclnmlfaaGreatTotals.lean).
  GIVEN WITH THE SEED: the statements are not yours to turn. If you find one false, say at which input.
  Laid BY PROGRAM, IN A SANDBOX (cutbox-rows.mjs): the forced cells as the released guide's own fill.sh prints them over the translation d879464d8177e6f9… (all of the seat's roots in one cut). By AI agents, Wed Nov 11 2026. No macro, syntax, notation, axiom, sorry.
-/
import Derived.Test.YtpjefkdclnmlfaaGreatChecked
import GoSem.Claim
import GoSem.ClaimJoined
import GoSem.ClaimMapViews
import Derived.JoinedTies
import Derived.KernelRfl
namespace Go.Proofs.YtpjefkdclnmlfaaGreat
/- THE CELL 'sum', in the pinned program and in every row, IS THE sha256 OF THE DUMP (.gsa) THAT YtpjefkdclnmlfaaGreatProg.lean LOADS. Nothing in Lean hashes anything: it is a label: what it is worth is what the hold of that sum in a sandbox is worth. -/
noncomputable def Tryz.pinned : Pinned := { name := "ytpjefkdclnmlfaagreat", sum := "d879464d8177e6f9ba884f48477dba6436d66026543c9e481ea44bfe72220405", checked := Tryz.checked }
namespace Rows
def none {H : Type} : Left H := { results := [], args := [] }

/-- 'laws.FnExactIndexOk': WHATEVER THE INPUT: true; the input reads as it did. -/
def fnExactIndexOkSpec : ChangeSpec := { name := "fnExactIndexOk", fn := fun _ => fun
  | [d] => { results := [.lit (.bool true)], args := [d] }
  | _ => none }
def fnExactIndexOkRow : OpenClaim := { program := "ytpjefkdclnmlfaagreat", sum := "d879464d8177e6f9ba884f48477dba6436d66026543c9e481ea44bfe72220405", func := "loop.example/fossick/laws.FnExactIndexOk", spec := "fnExactIndexOk", unfollowed := true, recurses := true, apart := false }
def FnExactIndexOkSaid : Prop := fnExactIndexOkRow.holds Tryz.pinned (OpenSpec.ofChange fnExactIndexOkSpec)

/-- ITS FALSE NEIGHBOUR: 'it returns false'. Refute it at one input. -/
def fnExactIndexOkWrong : ChangeSpec := { name := "fnExactIndexOk", fn := fun _ => fun
  | [d] => { results := [.lit (.bool false)], args := [d] }
  | _ => none }
def FnExactIndexOkWrongFalsely : Prop := fnExactIndexOkRow.holds Tryz.pinned (OpenSpec.ofChange fnExactIndexOkWrong)

/-- 'laws.FnExactSegOf': WHATEVER THE INPUT: true; the input reads as it did. -/
def fnExactSegOfSpec : ChangeSpec := { name := "fnExactSegOf", fn := fun _ => fun
  | [d1, d2] => { results := [.lit (.bool true)], args := [d1, d2] }
  | _ => none }
def fnExactSegOfRow : OpenClaim := { program := "ytpjefkdclnmlfaagreat", sum := "d879464d8177e6f9ba884f48477dba6436d66026543c9e481ea44bfe72220405", func := "loop.example/fossick/laws.FnExactSegOf", spec := "fnExactSegOf", unfollowed := true, recurses := true, apart := false }
def FnExactSegOfSaid : Prop := fnExactSegOfRow.holds Tryz.pinned (OpenSpec.ofChange fnExactSegOfSpec)

/-- ITS FALSE NEIGHBOUR: 'it returns false'. Refute it at one input. -/
def fnExactSegOfWrong : ChangeSpec := { name := "fnExactSegOf", fn := fun _ => fun
  | [d1, d2] => { results := [.lit (.bool false)], args := [d1, d2] }
  | _ => none }
def FnExactSegOfWrongFalsely : Prop := fnExactSegOfRow.holds Tryz.pinned (OpenSpec.ofChange fnExactSegOfWrong)

/-- 'laws.FnExactSegPosts': WHATEVER THE INPUT: true; the input reads as it did. -/
def fnExactSegPostsSpec : ChangeSpec := { name := "fnExactSegPosts", fn := fun _ => fun
  | [d1, d2, d3, d4] => { results := [.lit (.bool true)], args := [d1, d2, d3, d4] }
  | _ => none }
def fnExactSegPostsRow : OpenClaim := { program := "ytpjefkdclnmlfaagreat", sum := "d879464d8177e6f9ba884f48477dba6436d66026543c9e481ea44bfe72220405", func := "loop.example/fossick/laws.FnExactSegPosts", spec := "fnExactSegPosts", unfollowed := true, recurses := true, apart := false }
def FnExactSegPostsSaid : Prop := fnExactSegPostsRow.holds Tryz.pinned (OpenSpec.ofChange fnExactSegPostsSpec)

/-- ITS FALSE NEIGHBOUR: 'it returns false'. Refute it at one input. -/
def fnExactSegPostsWrong : ChangeSpec := { name := "fnExactSegPosts", fn := fun _ => fun
  | [d1, d2, d3, d4] => { results := [.lit (.bool false)], args := [d1, d2, d3, d4] }
  | _ => none }
def FnExactSegPostsWrongFalsely : Prop := fnExactSegPostsRow.holds Tryz.pinned (OpenSpec.ofChange fnExactSegPostsWrong)

/-- 'laws.FnExactIndexDocs': WHATEVER THE INPUT: true; the input reads as it did. -/
def fnExactIndexDocsSpec : ChangeSpec := { name := "fnExactIndexDocs", fn := fun _ => fun
  | [d] => { results := [.lit (.bool true)], args := [d] }
  | _ => none }
def fnExactIndexDocsRow : OpenClaim := { program := "ytpjefkdclnmlfaagreat", sum := "d879464d8177e6f9ba884f48477dba6436d66026543c9e481ea44bfe72220405", func := "loop.example/fossick/laws.FnExactIndexDocs", spec := "fnExactIndexDocs", unfollowed := true, recurses := true, apart := false }
def FnExactIndexDocsSaid : Prop := fnExactIndexDocsRow.holds Tryz.pinned (OpenSpec.ofChange fnExactIndexDocsSpec)

/-- ITS FALSE NEIGHBOUR: 'it returns false'. Refute it at one input. -/
def fnExactIndexDocsWrong : ChangeSpec := { name := "fnExactIndexDocs", fn := fun _ => fun
  | [d] => { results := [.lit (.bool false)], args := [d] }
  | _ => none }
def FnExactIndexDocsWrongFalsely : Prop := fnExactIndexDocsRow.holds Tryz.pinned (OpenSpec.ofChange fnExactIndexDocsWrong)

/-- 'laws.FnIndexDocs': WHATEVER THE INPUT: true; the input reads as it did. -/
def fnIndexDocsSpec : ChangeSpec := { name := "fnIndexDocs", fn := fun _ => fun
  | [d] => { results := [.lit (.bool true)], args := [d] }
  | _ => none }
def fnIndexDocsRow : OpenClaim := { program := "ytpjefkdclnmlfaagreat", sum := "d879464d8177e6f9ba884f48477dba6436d66026543c9e481ea44bfe72220405", func := "loop.example/fossick/laws.FnIndexDocs", spec := "fnIndexDocs", unfollowed := true, recurses := true, apart := false }
def FnIndexDocsSaid : Prop := fnIndexDocsRow.holds Tryz.pinned (OpenSpec.ofChange fnIndexDocsSpec)

/-- ITS FALSE NEIGHBOUR: 'it returns false'. Refute it at one input. -/
def fnIndexDocsWrong : ChangeSpec := { name := "fnIndexDocs", fn := fun _ => fun
  | [d] => { results := [.lit (.bool false)], args := [d] }
  | _ => none }
def FnIndexDocsWrongFalsely : Prop := fnIndexDocsRow.holds Tryz.pinned (OpenSpec.ofChange fnIndexDocsWrong)

/-- 'laws.FnIndexMerge': WHATEVER THE INPUT: true; the input reads as it did. -/
def fnIndexMergeSpec : ChangeSpec := { name := "fnIndexMerge", fn := fun _ => fun
  | [d] => { results := [.lit (.bool true)], args := [d] }
  | _ => none }
def fnIndexMergeRow : OpenClaim := { program := "ytpjefkdclnmlfaagreat", sum := "d879464d8177e6f9ba884f48477dba6436d66026543c9e481ea44bfe72220405", func := "loop.example/fossick/laws.FnIndexMerge", spec := "fnIndexMerge", unfollowed := true, recurses := true, apart := false }
def FnIndexMergeSaid : Prop := fnIndexMergeRow.holds Tryz.pinned (OpenSpec.ofChange fnIndexMergeSpec)

/-- ITS FALSE NEIGHBOUR: 'it returns false'. Refute it at one input. -/
def fnIndexMergeWrong : ChangeSpec := { name := "fnIndexMerge", fn := fun _ => fun
  | [d] => { results := [.lit (.bool false)], args := [d] }
  | _ => none }
def FnIndexMergeWrongFalsely : Prop := fnIndexMergeRow.holds Tryz.pinned (OpenSpec.ofChange fnIndexMergeWrong)

/-- 'laws.FnIndexDrop': WHATEVER THE INPUT: true; the input reads as it did. -/
def fnIndexDropSpec : ChangeSpec := { name := "fnIndexDrop", fn := fun _ => fun
  | [d] => { results := [.lit (.bool true)], args := [d] }
  | _ => none }
def fnIndexDropRow : OpenClaim := { program := "ytpjefkdclnmlfaagreat", sum := "d879464d8177e6f9ba884f48477dba6436d66026543c9e481ea44bfe72220405", func := "loop.example/fossick/laws.FnIndexDrop", spec := "fnIndexDrop", unfollowed := true, recurses := true, apart := false }
def FnIndexDropSaid : Prop := fnIndexDropRow.holds Tryz.pinned (OpenSpec.ofChange fnIndexDropSpec)

/-- ITS FALSE NEIGHBOUR: 'it returns false'. Refute it at one input. -/
def fnIndexDropWrong : ChangeSpec := { name := "fnIndexDrop", fn := fun _ => fun
  | [d] => { results := [.lit (.bool false)], args := [d] }
  | _ => none }
def FnIndexDropWrongFalsely : Prop := fnIndexDropRow.holds Tryz.pinned (OpenSpec.ofChange fnIndexDropWrong)

/-- 'laws.FnIndexAdd': WHATEVER THE INPUT: true; the input reads as it did. -/
def fnIndexAddSpec : ChangeSpec := { name := "fnIndexAdd", fn := fun _ => fun
  | [d] => { results := [.lit (.bool true)], args := [d] }
  | _ => none }
def fnIndexAddRow : OpenClaim := { program := "ytpjefkdclnmlfaagreat", sum := "d879464d8177e6f9ba884f48477dba6436d66026543c9e481ea44bfe72220405", func := "loop.example/fossick/laws.FnIndexAdd", spec := "fnIndexAdd", unfollowed := true, recurses := true, apart := false }
def FnIndexAddSaid : Prop := fnIndexAddRow.holds Tryz.pinned (OpenSpec.ofChange fnIndexAddSpec)

/-- ITS FALSE NEIGHBOUR: 'it returns false'. Refute it at one input. -/
def fnIndexAddWrong : ChangeSpec := { name := "fnIndexAdd", fn := fun _ => fun
  | [d] => { results := [.lit (.bool false)], args := [d] }
  | _ => none }
def FnIndexAddWrongFalsely : Prop := fnIndexAddRow.holds Tryz.pinned (OpenSpec.ofChange fnIndexAddWrong)

/- THE SECOND FORM. 'bulk': how many values and letters a reading holds, each counted each time it is reached (what is shared counts as often as it is met; a slice's spare places count too). A statement '..UptoSaid' is the law's where the arguments, and the package variables that the reading takes, are together of bulk at most 1048576: NARROWER than '..Said'. Prove '..Said' where nothing that the law and all that it calls make is longer than what came in: it says more and counts as full. Else prove '..UptoSaid'. A law counts once. -/
mutual
def uptoBulk {H : Type} : DataW H → Nat
  | .lit (.string bytes) => bytes.length + 1
  | .lit _ => 1
  | .nil => 1
  | .ptr d => uptoBulk d + 1
  | .slice elems spare => uptoBulkAll elems + uptoBulkAll spare + 1
  | .agg parts => uptoBulkAll parts + 1
  | .iface _ d => uptoBulk d + 1
  | .map entries => uptoBulkEntries entries + 1
  | .held _ => 1
def uptoBulkAll {H : Type} : List (DataW H) → Nat
  | [] => 0
  | d :: r => uptoBulk d + uptoBulkAll r
def uptoBulkEntries {H : Type} : List (Lit × DataW H) → Nat
  | [] => 0
  | x :: r => uptoBulkEntry x + uptoBulkEntries r
def uptoBulkEntry {H : Type} : Lit × DataW H → Nat
  | (.string bytes, d) => bytes.length + uptoBulk d + 1
  | (_, d) => uptoBulk d + 1
 end
def uptoSmall : (H : Type) → List (DataW H) → Bool := fun _ ds => decide (uptoBulkAll ds ≤ 1048576)
def OpenSpec.upto (s : _root_.Go.ChangeSpec) : _root_.Go.OpenSpec := { _root_.Go.OpenSpec.ofChange s with cond := some uptoSmall }

/-- 'laws.FnExactIndexOk', WHERE WHAT IT READS IS OF BULK AT MOST 1048576: true; the input reads as it did. -/
def fnExactIndexOkUptoRow : OpenClaim := { program := "ytpjefkdclnmlfaagreat", sum := "d879464d8177e6f9ba884f48477dba6436d66026543c9e481ea44bfe72220405", func := "loop.example/fossick/laws.FnExactIndexOk", spec := "fnExactIndexOk", unfollowed := true, recurses := true, apart := false, narrowed := true }
def FnExactIndexOkUptoSaid : Prop := fnExactIndexOkUptoRow.holds Tryz.pinned (OpenSpec.upto fnExactIndexOkSpec)

/-- 'laws.FnExactSegOf', WHERE WHAT IT READS IS OF BULK AT MOST 1048576: true; the input reads as it did. -/
def fnExactSegOfUptoRow : OpenClaim := { program := "ytpjefkdclnmlfaagreat", sum := "d879464d8177e6f9ba884f48477dba6436d66026543c9e481ea44bfe72220405", func := "loop.example/fossick/laws.FnExactSegOf", spec := "fnExactSegOf", unfollowed := true, recurses := true, apart := false, narrowed := true }
def FnExactSegOfUptoSaid : Prop := fnExactSegOfUptoRow.holds Tryz.pinned (OpenSpec.upto fnExactSegOfSpec)

/-- 'laws.FnExactSegPosts', WHERE WHAT IT READS IS OF BULK AT MOST 1048576: true; the input reads as it did. -/
def fnExactSegPostsUptoRow : OpenClaim := { program := "ytpjefkdclnmlfaagreat", sum := "d879464d8177e6f9ba884f48477dba6436d66026543c9e481ea44bfe72220405", func := "loop.example/fossick/laws.FnExactSegPosts", spec := "fnExactSegPosts", unfollowed := true, recurses := true, apart := false, narrowed := true }
def FnExactSegPostsUptoSaid : Prop := fnExactSegPostsUptoRow.holds Tryz.pinned (OpenSpec.upto fnExactSegPostsSpec)

/-- 'laws.FnExactIndexDocs', WHERE WHAT IT READS IS OF BULK AT MOST 1048576: true; the input reads as it did. -/
def fnExactIndexDocsUptoRow : OpenClaim := { program := "ytpjefkdclnmlfaagreat", sum := "d879464d8177e6f9ba884f48477dba6436d66026543c9e481ea44bfe72220405", func := "loop.example/fossick/laws.FnExactIndexDocs", spec := "fnExactIndexDocs", unfollowed := true, recurses := true, apart := false, narrowed := true }
def FnExactIndexDocsUptoSaid : Prop := fnExactIndexDocsUptoRow.holds Tryz.pinned (OpenSpec.upto fnExactIndexDocsSpec)

/-- 'laws.FnIndexDocs', WHERE WHAT IT READS IS OF BULK AT MOST 1048576: true; the input reads as it did. -/
def fnIndexDocsUptoRow : OpenClaim := { program := "ytpjefkdclnmlfaagreat", sum := "d879464d8177e6f9ba884f48477dba6436d66026543c9e481ea44bfe72220405", func := "loop.example/fossick/laws.FnIndexDocs", spec := "fnIndexDocs", unfollowed := true, recurses := true, apart := false, narrowed := true }
def FnIndexDocsUptoSaid : Prop := fnIndexDocsUptoRow.holds Tryz.pinned (OpenSpec.upto fnIndexDocsSpec)

/-- 'laws.FnIndexMerge', WHERE WHAT IT READS IS OF BULK AT MOST 1048576: true; the input reads as it did. -/
def fnIndexMergeUptoRow : OpenClaim := { program := "ytpjefkdclnmlfaagreat", sum := "d879464d8177e6f9ba884f48477dba6436d66026543c9e481ea44bfe72220405", func := "loop.example/fossick/laws.FnIndexMerge", spec := "fnIndexMerge", unfollowed := true, recurses := true, apart := false, narrowed := true }
def FnIndexMergeUptoSaid : Prop := fnIndexMergeUptoRow.holds Tryz.pinned (OpenSpec.upto fnIndexMergeSpec)

/-- 'laws.FnIndexDrop', WHERE WHAT IT READS IS OF BULK AT MOST 1048576: true; the input reads as it did. -/
def fnIndexDropUptoRow : OpenClaim := { program := "ytpjefkdclnmlfaagreat", sum := "d879464d8177e6f9ba884f48477dba6436d66026543c9e481ea44bfe72220405", func := "loop.example/fossick/laws.FnIndexDrop", spec := "fnIndexDrop", unfollowed := true, recurses := true, apart := false, narrowed := true }
def FnIndexDropUptoSaid : Prop := fnIndexDropUptoRow.holds Tryz.pinned (OpenSpec.upto fnIndexDropSpec)

/-- 'laws.FnIndexAdd', WHERE WHAT IT READS IS OF BULK AT MOST 1048576: true; the input reads as it did. -/
def fnIndexAddUptoRow : OpenClaim := { program := "ytpjefkdclnmlfaagreat", sum := "d879464d8177e6f9ba884f48477dba6436d66026543c9e481ea44bfe72220405", func := "loop.example/fossick/laws.FnIndexAdd", spec := "fnIndexAdd", unfollowed := true, recurses := true, apart := false, narrowed := true }
def FnIndexAddUptoSaid : Prop := fnIndexAddUptoRow.holds Tryz.pinned (OpenSpec.upto fnIndexAddSpec)

end Rows
end Go.Proofs.YtpjefkdclnmlfaaGreat
