/-
  No cell of these rows narrows 'for every input' (looked for: loops, veiled, ifaces, maps, wideKeys, modest, calm, conditions, laid).
  DERIVED. THE GIVEN ROWS OF THIS SEAT. 6 by the template 'for every input the law returns true; each argument reads behind the call as it read before'; 0 by the template 'total and deterministic' (their statements: YtdcmmhjhffcnhaaGreatTotals.lean).
  GIVEN WITH THE SEED: the statements are not yours to turn. If you find one false, say at which input.
  Laid BY PROGRAM, IN A SANDBOX (cutbox-rows.mjs): the forced cells as the released guide's own fill.sh prints them over the translation fee4b5469e24e194… (all of the seat's roots in one cut). By AI agents, Wed Nov 11 2026. No macro, syntax, notation, axiom, sorry.
-/
import Derived.Test.YtdcmmhjhffcnhaaGreatChecked
import GoSem.Claim
import GoSem.ClaimJoined
import GoSem.ClaimMapViews
import Derived.JoinedTies
import Derived.KernelRfl
namespace Go.Proofs.YtdcmmhjhffcnhaaGreat
/- THE CELL 'sum', in the pinned program and in every row, IS THE sha256 OF THE DUMP (.gsa) THAT YtdcmmhjhffcnhaaGreatProg.lean LOADS. Nothing in Lean hashes anything: it is a label: what it is worth is what the hold of that sum in a sandbox is worth. -/
noncomputable def Tryz.pinned : Pinned := { name := "ytdcmmhjhffcnhaagreat", sum := "fee4b5469e24e19428553d388ced49a9123107196a4f43abf7d48acff62bcf16", checked := Tryz.checked }
namespace Rows
def none {H : Type} : Left H := { results := [], args := [] }

/-- 'laws.FnSegPosts': WHATEVER THE INPUT: true; the input reads as it did. -/
def fnSegPostsSpec : ChangeSpec := { name := "fnSegPosts", fn := fun _ => fun
  | [d] => { results := [.lit (.bool true)], args := [d] }
  | _ => none }
def fnSegPostsRow : OpenClaim := { program := "ytdcmmhjhffcnhaagreat", sum := "fee4b5469e24e19428553d388ced49a9123107196a4f43abf7d48acff62bcf16", func := "loop.example/fossick/laws.FnSegPosts", spec := "fnSegPosts", unfollowed := true, recurses := true, apart := false }
def FnSegPostsSaid : Prop := fnSegPostsRow.holds Tryz.pinned (OpenSpec.ofChange fnSegPostsSpec)

/-- ITS FALSE NEIGHBOUR: 'it returns false'. Refute it at one input. -/
def fnSegPostsWrong : ChangeSpec := { name := "fnSegPosts", fn := fun _ => fun
  | [d] => { results := [.lit (.bool false)], args := [d] }
  | _ => none }
def FnSegPostsWrongFalsely : Prop := fnSegPostsRow.holds Tryz.pinned (OpenSpec.ofChange fnSegPostsWrong)

/-- 'laws.FnExactSegOf': WHATEVER THE INPUT: true; the input reads as it did. -/
def fnExactSegOfSpec : ChangeSpec := { name := "fnExactSegOf", fn := fun _ => fun
  | [d1, d2] => { results := [.lit (.bool true)], args := [d1, d2] }
  | _ => none }
def fnExactSegOfRow : OpenClaim := { program := "ytdcmmhjhffcnhaagreat", sum := "fee4b5469e24e19428553d388ced49a9123107196a4f43abf7d48acff62bcf16", func := "loop.example/fossick/laws.FnExactSegOf", spec := "fnExactSegOf", unfollowed := true, recurses := true, apart := false }
def FnExactSegOfSaid : Prop := fnExactSegOfRow.holds Tryz.pinned (OpenSpec.ofChange fnExactSegOfSpec)

/-- ITS FALSE NEIGHBOUR: 'it returns false'. Refute it at one input. -/
def fnExactSegOfWrong : ChangeSpec := { name := "fnExactSegOf", fn := fun _ => fun
  | [d1, d2] => { results := [.lit (.bool false)], args := [d1, d2] }
  | _ => none }
def FnExactSegOfWrongFalsely : Prop := fnExactSegOfRow.holds Tryz.pinned (OpenSpec.ofChange fnExactSegOfWrong)

/-- 'laws.FnExactSegOk': WHATEVER THE INPUT: true; the input reads as it did. -/
def fnExactSegOkSpec : ChangeSpec := { name := "fnExactSegOk", fn := fun _ => fun
  | [d1, d2] => { results := [.lit (.bool true)], args := [d1, d2] }
  | _ => none }
def fnExactSegOkRow : OpenClaim := { program := "ytdcmmhjhffcnhaagreat", sum := "fee4b5469e24e19428553d388ced49a9123107196a4f43abf7d48acff62bcf16", func := "loop.example/fossick/laws.FnExactSegOk", spec := "fnExactSegOk", unfollowed := true, recurses := true, apart := false }
def FnExactSegOkSaid : Prop := fnExactSegOkRow.holds Tryz.pinned (OpenSpec.ofChange fnExactSegOkSpec)

/-- ITS FALSE NEIGHBOUR: 'it returns false'. Refute it at one input. -/
def fnExactSegOkWrong : ChangeSpec := { name := "fnExactSegOk", fn := fun _ => fun
  | [d1, d2] => { results := [.lit (.bool false)], args := [d1, d2] }
  | _ => none }
def FnExactSegOkWrongFalsely : Prop := fnExactSegOkRow.holds Tryz.pinned (OpenSpec.ofChange fnExactSegOkWrong)

/-- 'laws.FnExactSegLong': WHATEVER THE INPUT: true; the input reads as it did. -/
def fnExactSegLongSpec : ChangeSpec := { name := "fnExactSegLong", fn := fun _ => fun
  | [d1, d2, d3, d4] => { results := [.lit (.bool true)], args := [d1, d2, d3, d4] }
  | _ => none }
def fnExactSegLongRow : OpenClaim := { program := "ytdcmmhjhffcnhaagreat", sum := "fee4b5469e24e19428553d388ced49a9123107196a4f43abf7d48acff62bcf16", func := "loop.example/fossick/laws.FnExactSegLong", spec := "fnExactSegLong", unfollowed := true, recurses := true, apart := false }
def FnExactSegLongSaid : Prop := fnExactSegLongRow.holds Tryz.pinned (OpenSpec.ofChange fnExactSegLongSpec)

/-- ITS FALSE NEIGHBOUR: 'it returns false'. Refute it at one input. -/
def fnExactSegLongWrong : ChangeSpec := { name := "fnExactSegLong", fn := fun _ => fun
  | [d1, d2, d3, d4] => { results := [.lit (.bool false)], args := [d1, d2, d3, d4] }
  | _ => none }
def FnExactSegLongWrongFalsely : Prop := fnExactSegLongRow.holds Tryz.pinned (OpenSpec.ofChange fnExactSegLongWrong)

/-- 'laws.FnExactSegTerms': WHATEVER THE INPUT: true; the input reads as it did. -/
def fnExactSegTermsSpec : ChangeSpec := { name := "fnExactSegTerms", fn := fun _ => fun
  | [d1, d2, d3] => { results := [.lit (.bool true)], args := [d1, d2, d3] }
  | _ => none }
def fnExactSegTermsRow : OpenClaim := { program := "ytdcmmhjhffcnhaagreat", sum := "fee4b5469e24e19428553d388ced49a9123107196a4f43abf7d48acff62bcf16", func := "loop.example/fossick/laws.FnExactSegTerms", spec := "fnExactSegTerms", unfollowed := true, recurses := true, apart := false }
def FnExactSegTermsSaid : Prop := fnExactSegTermsRow.holds Tryz.pinned (OpenSpec.ofChange fnExactSegTermsSpec)

/-- ITS FALSE NEIGHBOUR: 'it returns false'. Refute it at one input. -/
def fnExactSegTermsWrong : ChangeSpec := { name := "fnExactSegTerms", fn := fun _ => fun
  | [d1, d2, d3] => { results := [.lit (.bool false)], args := [d1, d2, d3] }
  | _ => none }
def FnExactSegTermsWrongFalsely : Prop := fnExactSegTermsRow.holds Tryz.pinned (OpenSpec.ofChange fnExactSegTermsWrong)

/-- 'laws.FnExactSegPosts': WHATEVER THE INPUT: true; the input reads as it did. -/
def fnExactSegPostsSpec : ChangeSpec := { name := "fnExactSegPosts", fn := fun _ => fun
  | [d1, d2, d3, d4] => { results := [.lit (.bool true)], args := [d1, d2, d3, d4] }
  | _ => none }
def fnExactSegPostsRow : OpenClaim := { program := "ytdcmmhjhffcnhaagreat", sum := "fee4b5469e24e19428553d388ced49a9123107196a4f43abf7d48acff62bcf16", func := "loop.example/fossick/laws.FnExactSegPosts", spec := "fnExactSegPosts", unfollowed := true, recurses := true, apart := false }
def FnExactSegPostsSaid : Prop := fnExactSegPostsRow.holds Tryz.pinned (OpenSpec.ofChange fnExactSegPostsSpec)

/-- ITS FALSE NEIGHBOUR: 'it returns false'. Refute it at one input. -/
def fnExactSegPostsWrong : ChangeSpec := { name := "fnExactSegPosts", fn := fun _ => fun
  | [d1, d2, d3, d4] => { results := [.lit (.bool false)], args := [d1, d2, d3, d4] }
  | _ => none }
def FnExactSegPostsWrongFalsely : Prop := fnExactSegPostsRow.holds Tryz.pinned (OpenSpec.ofChange fnExactSegPostsWrong)

/- THE SECOND FORM. 'bulk': how many values and letters a reading holds, each counted each time it is reached (what is shared counts as often as it is met; a slice's spare places count too). A statement '..UptoSaid' is the law's where the arguments, and the package variables that the reading takes, are together of bulk at most 1048576: NARROWER than '..Said'. Prove '..Said' where nothing that the law and all that it calls make is longer than what came in: it says more and counts as full. Else prove '..UptoSaid'. A law counts once. -/
mutual
def uptoBulk {H : Type} : DataW H → Nat
  | .lit (.string bytes) => bytes.length + 1
  | .lit _ => 1
  | .nil => 1
  | .ptr d => uptoBulk d + 1
  | .slice elems spare => uptoBulkAll elems + uptoBulkAll spare + 1
  | .agg parts => uptoBulkAll parts + 1
  | .iface _ d => uptoBulk d + 1
  | .map entries => uptoBulkEntries entries + 1
  | .held _ => 1
def uptoBulkAll {H : Type} : List (DataW H) → Nat
  | [] => 0
  | d :: r => uptoBulk d + uptoBulkAll r
def uptoBulkEntries {H : Type} : List (Lit × DataW H) → Nat
  | [] => 0
  | x :: r => uptoBulkEntry x + uptoBulkEntries r
def uptoBulkEntry {H : Type} : Lit × DataW H → Nat
  | (.string bytes, d) => bytes.length + uptoBulk d + 1
  | (_, d) => uptoBulk d + 1
 end
def uptoSmall : (H : Type) → List (DataW H) → Bool := fun _ ds => decide (uptoBulkAll ds ≤ 1048576)
def OpenSpec.upto (s : _root_.Go.ChangeSpec) : _root_.Go.OpenSpec := { _root_.Go.OpenSpec.ofChange s with cond := some uptoSmall }

/-- 'laws.FnSegPosts', WHERE WHAT IT READS IS OF BULK AT MOST 1048576: true; the input reads as it did. -/
def fnSegPostsUptoRow : OpenClaim := { program := "ytdcmmhjhffcnhaagreat", sum := "fee4b5469e24e19428553d388ced49a9123107196a4f43abf7d48acff62bcf16", func := "loop.example/fossick/laws.FnSegPosts", spec := "fnSegPosts", unfollowed := true, recurses := true, apart := false, narrowed := true }
def FnSegPostsUptoSaid : Prop := fnSegPostsUptoRow.holds Tryz.pinned (OpenSpec.upto fnSegPostsSpec)

/-- 'laws.FnExactSegOf', WHERE WHAT IT READS IS OF BULK AT MOST 1048576: true; the input reads as it did. -/
def fnExactSegOfUptoRow : OpenClaim := { program := "ytdcmmhjhffcnhaagreat", sum := "fee4b5469e24e19428553d388ced49a9123107196a4f43abf7d48acff62bcf16", func := "loop.example/fossick/laws.FnExactSegOf", spec := "fnExactSegOf", unfollowed := true, recurses := true, apart := false, narrowed := true }
def FnExactSegOfUptoSaid : Prop := fnExactSegOfUptoRow.holds Tryz.pinned (OpenSpec.upto fnExactSegOfSpec)

/-- 'laws.FnExactSegOk', WHERE WHAT IT READS IS OF BULK AT MOST 1048576: true; the input reads as it did. -/
def fnExactSegOkUptoRow : OpenClaim := { program := "ytdcmmhjhffcnhaagreat", sum := "fee4b5469e24e19428553d388ced49a9123107196a4f43abf7d48acff62bcf16", func := "loop.example/fossick/laws.FnExactSegOk", spec := "fnExactSegOk", unfollowed := true, recurses := true, apart := false, narrowed := true }
def FnExactSegOkUptoSaid : Prop := fnExactSegOkUptoRow.holds Tryz.pinned (OpenSpec.upto fnExactSegOkSpec)

/-- 'laws.FnExactSegLong', WHERE WHAT IT READS IS OF BULK AT MOST 1048576: true; the input reads as it did. -/
def fnExactSegLongUptoRow : OpenClaim := { program := "ytdcmmhjhffcnhaagreat", sum := "fee4b5469e24e19428553d388ced49a9123107196a4f43abf7d48acff62bcf16", func := "loop.example/fossick/laws.FnExactSegLong", spec := "fnExactSegLong", unfollowed := true, recurses := true, apart := false, narrowed := true }
def FnExactSegLongUptoSaid : Prop := fnExactSegLongUptoRow.holds Tryz.pinned (OpenSpec.upto fnExactSegLongSpec)

/-- 'laws.FnExactSegTerms', WHERE WHAT IT READS IS OF BULK AT MOST 1048576: true; the input reads as it did. -/
def fnExactSegTermsUptoRow : OpenClaim := { program := "ytdcmmhjhffcnhaagreat", sum := "fee4b5469e24e19428553d388ced49a9123107196a4f43abf7d48acff62bcf16", func := "loop.example/fossick/laws.FnExactSegTerms", spec := "fnExactSegTerms", unfollowed := true, recurses := true, apart := false, narrowed := true }
def FnExactSegTermsUptoSaid : Prop := fnExactSegTermsUptoRow.holds Tryz.pinned (OpenSpec.upto fnExactSegTermsSpec)

/-- 'laws.FnExactSegPosts', WHERE WHAT IT READS IS OF BULK AT MOST 1048576: true; the input reads as it did. -/
def fnExactSegPostsUptoRow : OpenClaim := { program := "ytdcmmhjhffcnhaagreat", sum := "fee4b5469e24e19428553d388ced49a9123107196a4f43abf7d48acff62bcf16", func := "loop.example/fossick/laws.FnExactSegPosts", spec := "fnExactSegPosts", unfollowed := true, recurses := true, apart := false, narrowed := true }
def FnExactSegPostsUptoSaid : Prop := fnExactSegPostsUptoRow.holds Tryz.pinned (OpenSpec.upto fnExactSegPostsSpec)

end Rows
end Go.Proofs.YtdcmmhjhffcnhaaGreat
