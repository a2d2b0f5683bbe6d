/-
  'FnTopAfterCardSaid' is proved: whatever byte slices are handed in, 'laws.FnTopAfter' returns true, they read as they did, and so do the listed variables. No conditions but the card's own.
-/
import Derived.Test.YtnloenhmkdpgeaaGreatDoorRows
import Derived.Test.YtnloenhmkdpgeaaGreatDoorCards
import Derived.Test.YtnloenhmkdpgeaaGreatDoorTie
import Derived.Test.YtnloenhmkdpgeaaGreatDoorJoinTopAfterL
import Derived.Test.YtnloenhmkdpgeaaGreatDoorJoinTopAfterC
import Derived.Test.YtnloenhmkdpgeaaGreatDoorJoinTopAfterE
namespace Go.Proofs.YtnloenhmkdpgeaaGreatDoor.fnTopAfter
open Go.ChangeShapes Go.WideShapes Go.ChangeAt Go.RowKit Go.WideElems Go.Fk
theorem a6I:Rows.fnTopAfterRow.holds Tryz.pinned (OpenSpec.ofChange Rows.fnTopAfterSpec):=
 OpenClaim.holds_of_wide 14 Tryz.f14 rfl rfl rfl rfl rfl rfl rfl ⟨rfl,rfl,rfl,rfl,rfl⟩ rfl rfl rfl rfl rfl (by kernel_rfl) Tryz.func14 V1
  (of_decide_eq_true (by kernel_rfl)) (by unfold Func.isWrapper;first | (rw [if_pos (by decide +kernel)];kernel_rfl) | (rw [if_neg (by decide +kernel)];exact⟨rfl,rfl⟩))
  (fun os started H enc _=>X1 os started H enc)
theorem proved:Rows.FnTopAfterCardSaid:=
 Claim7.holds_tied_plain_at .later [] [.data,.mapped] true (true,"41dcb77eb32479d1c527a448b43f78800be103f64cc31ce4e38b8f9a0b40aaa3") false
  a6I (fun _ h=>by cases h) fW (fun _ h=>by cases h) fnTopAfter_row_tie rfl ⟨rfl,rfl⟩ fM rfl
  (fun f fn hf hfn=>by
   obtain rfl:f=14:=Option.some.inj (fN.symm.trans hf) |>.symm
   obtain rfl:fn=Tryz.f14:=(Option.some.inj (Tryz.func14.symm.trans hfn)).symm
   exact⟨fL,fun j t ht=>by
    rw [Tryz.params14] at ht
    have hm:t∈[22]:=by simpa using Array.mem_of_getElem? ht
    exact(show Tryz.prog.wantsStandIn t=false by simpa using List.all_eq_true.1 fS t hm)⟩)
  fG
end Go.Proofs.YtnloenhmkdpgeaaGreatDoor.fnTopAfter
