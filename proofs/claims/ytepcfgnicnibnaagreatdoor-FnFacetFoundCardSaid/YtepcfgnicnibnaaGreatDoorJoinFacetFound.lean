/-
  'FnFacetFoundCardSaid' is proved: whatever byte slices are handed in, 'laws.FnFacetFound' returns true, they read as they did, and so do the listed variables. No conditions but the card's own.
-/
import Derived.Test.YtepcfgnicnibnaaGreatDoorRows
import Derived.Test.YtepcfgnicnibnaaGreatDoorCards
import Derived.Test.YtepcfgnicnibnaaGreatDoorTie
import Derived.Test.YtepcfgnicnibnaaGreatDoorJoinFacetFoundL
import Derived.Test.YtepcfgnicnibnaaGreatDoorJoinFacetFoundC
import Derived.Test.YtepcfgnicnibnaaGreatDoorJoinFacetFoundE
namespace Go.Proofs.YtepcfgnicnibnaaGreatDoor.fnFacetFound
open Go.ChangeShapes Go.WideShapes Go.ChangeAt Go.RowKit Go.WideElems Go.Fk
theorem b2j:Rows.fnFacetFoundRow.holds Tryz.pinned (OpenSpec.ofChange Rows.fnFacetFoundSpec):=
 OpenClaim.holds_of_wide 6 Tryz.f6 rfl rfl rfl rfl rfl rfl rfl ⟨rfl,rfl,rfl,rfl,rfl⟩ rfl rfl rfl rfl rfl (by kernel_rfl) Tryz.func6 a4I
  (of_decide_eq_true (by kernel_rfl)) (by unfold Func.isWrapper;first | (rw [if_pos (by decide +kernel)];kernel_rfl) | (rw [if_neg (by decide +kernel)];exact⟨rfl,rfl⟩))
  (fun os started H enc _=>a5o os started H enc)
theorem proved:Rows.FnFacetFoundCardSaid:=
 Claim7.holds_tied_plain_at .later [] [.data,.mapped] true (true,"d96f2da7b8e612c9ca95e99ae8cc2a5c374843375510afbdc68363c062b93749") false
  b2j (fun _ h=>by cases h) fW (fun _ h=>by cases h) fnFacetFound_row_tie rfl ⟨rfl,rfl⟩ fM rfl
  (fun f fn hf hfn=>by
   obtain rfl:f=6:=Option.some.inj (fN.symm.trans hf) |>.symm
   obtain rfl:fn=Tryz.f6:=(Option.some.inj (Tryz.func6.symm.trans hfn)).symm
   exact⟨fL,fun j t ht=>by
    rw [Tryz.params6] at ht
    have hm:t∈[22]:=by simpa using Array.mem_of_getElem? ht
    exact(show Tryz.prog.wantsStandIn t=false by simpa using List.all_eq_true.1 fS t hm)⟩)
  fG
end Go.Proofs.YtepcfgnicnibnaaGreatDoor.fnFacetFound
