/-
  'FnPageOfCardSaid' is proved: whatever byte slices are handed in, 'laws.FnPageOf' returns true, they read as they did, and so do the listed variables. No conditions but the card's own.
-/
import Derived.Test.YtepcfgnicnibnaaGreatDoorRows
import Derived.Test.YtepcfgnicnibnaaGreatDoorCards
import Derived.Test.YtepcfgnicnibnaaGreatDoorTie
import Derived.Test.YtepcfgnicnibnaaGreatDoorJoinPageOfL
import Derived.Test.YtepcfgnicnibnaaGreatDoorJoinPageOfC
import Derived.Test.YtepcfgnicnibnaaGreatDoorJoinPageOfE
namespace Go.Proofs.YtepcfgnicnibnaaGreatDoor.fnPageOf
open Go.ChangeShapes Go.WideShapes Go.ChangeAt Go.RowKit Go.WideElems Go.Fk
theorem b2j:Rows.fnPageOfRow.holds Tryz.pinned (OpenSpec.ofChange Rows.fnPageOfSpec):=
 OpenClaim.holds_of_wide 3 Tryz.f3 rfl rfl rfl rfl rfl rfl rfl ⟨rfl,rfl,rfl,rfl,rfl⟩ rfl rfl rfl rfl rfl (by kernel_rfl) Tryz.func3 a4I
  (of_decide_eq_true (by kernel_rfl)) (by unfold Func.isWrapper;first | (rw [if_pos (by decide +kernel)];kernel_rfl) | (rw [if_neg (by decide +kernel)];exact⟨rfl,rfl⟩))
  (fun os started H enc _=>a5o os started H enc)
theorem proved:Rows.FnPageOfCardSaid:=
 Claim7.holds_tied_plain_at .later [] [.data,.mapped] true (true,"d96f2da7b8e612c9ca95e99ae8cc2a5c374843375510afbdc68363c062b93749") false
  b2j (fun _ h=>by cases h) fW (fun _ h=>by cases h) fnPageOf_row_tie rfl ⟨rfl,rfl⟩ fM rfl
  (fun f fn hf hfn=>by
   obtain rfl:f=3:=Option.some.inj (fN.symm.trans hf) |>.symm
   obtain rfl:fn=Tryz.f3:=(Option.some.inj (Tryz.func3.symm.trans hfn)).symm
   exact⟨fL,fun j t ht=>by
    rw [Tryz.params3] at ht
    have hm:t∈[22]:=by simpa using Array.mem_of_getElem? ht
    exact(show Tryz.prog.wantsStandIn t=false by simpa using List.all_eq_true.1 fS t hm)⟩)
  fG
end Go.Proofs.YtepcfgnicnibnaaGreatDoor.fnPageOf
