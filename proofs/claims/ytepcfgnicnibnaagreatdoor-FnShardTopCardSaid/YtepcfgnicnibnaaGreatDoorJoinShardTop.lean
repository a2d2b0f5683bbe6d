/-
  'FnShardTopCardSaid' is proved: whatever byte slices are handed in, 'laws.FnShardTop' returns true, they read as they did, and so do the listed variables. No conditions but the card's own.
-/
import Derived.Test.YtepcfgnicnibnaaGreatDoorRows
import Derived.Test.YtepcfgnicnibnaaGreatDoorCards
import Derived.Test.YtepcfgnicnibnaaGreatDoorTie
import Derived.Test.YtepcfgnicnibnaaGreatDoorJoinShardTopL
import Derived.Test.YtepcfgnicnibnaaGreatDoorJoinShardTopC
import Derived.Test.YtepcfgnicnibnaaGreatDoorJoinShardTopE
namespace Go.Proofs.YtepcfgnicnibnaaGreatDoor.fnShardTop
open Go.ChangeShapes Go.WideShapes Go.ChangeAt Go.RowKit Go.WideElems Go.Fk
theorem b2j:Rows.fnShardTopRow.holds Tryz.pinned (OpenSpec.ofChange Rows.fnShardTopSpec):=
 OpenClaim.holds_of_wide 5 Tryz.f5 rfl rfl rfl rfl rfl rfl rfl ⟨rfl,rfl,rfl,rfl,rfl⟩ rfl rfl rfl rfl rfl (by kernel_rfl) Tryz.func5 a4I
  (of_decide_eq_true (by kernel_rfl)) (by unfold Func.isWrapper;first | (rw [if_pos (by decide +kernel)];kernel_rfl) | (rw [if_neg (by decide +kernel)];exact⟨rfl,rfl⟩))
  (fun os started H enc _=>a5o os started H enc)
theorem proved:Rows.FnShardTopCardSaid:=
 Claim7.holds_tied_plain_at .later [] [.data,.mapped] true (true,"d96f2da7b8e612c9ca95e99ae8cc2a5c374843375510afbdc68363c062b93749") false
  b2j (fun _ h=>by cases h) fW (fun _ h=>by cases h) fnShardTop_row_tie rfl ⟨rfl,rfl⟩ fM rfl
  (fun f fn hf hfn=>by
   obtain rfl:f=5:=Option.some.inj (fN.symm.trans hf) |>.symm
   obtain rfl:fn=Tryz.f5:=(Option.some.inj (Tryz.func5.symm.trans hfn)).symm
   exact⟨fL,fun j t ht=>by
    rw [Tryz.params5] at ht
    have hm:t∈[22]:=by simpa using Array.mem_of_getElem? ht
    exact(show Tryz.prog.wantsStandIn t=false by simpa using List.all_eq_true.1 fS t hm)⟩)
  fG
end Go.Proofs.YtepcfgnicnibnaaGreatDoor.fnShardTop
