/-
  'FnSnipFoundCardSaid' is proved: whatever byte slices are handed in, 'laws.FnSnipFound' returns true, they read as they did, and so do the listed variables. No conditions but the card's own.
-/
import Derived.Test.YtpdfkjjmcnhakaaGreatDoorRows
import Derived.Test.YtpdfkjjmcnhakaaGreatDoorCards
import Derived.Test.YtpdfkjjmcnhakaaGreatDoorTie
import Derived.Test.YtpdfkjjmcnhakaaGreatDoorJoinSnipFoundL
import Derived.Test.YtpdfkjjmcnhakaaGreatDoorJoinSnipFoundC
import Derived.Test.YtpdfkjjmcnhakaaGreatDoorJoinSnipFoundE
namespace Go.Proofs.YtpdfkjjmcnhakaaGreatDoor.fnSnipFound
open Go.ChangeShapes Go.WideShapes Go.ChangeAt Go.RowKit Go.WideElems Go.Fk
theorem b4P:Rows.fnSnipFoundRow.holds Tryz.pinned (OpenSpec.ofChange Rows.fnSnipFoundSpec):=
 OpenClaim.holds_of_wide 4 Tryz.f4 rfl rfl rfl rfl rfl rfl rfl ⟨rfl,rfl,rfl,rfl,rfl⟩ rfl rfl rfl rfl rfl (by kernel_rfl) Tryz.func4 b2z
  (of_decide_eq_true (by kernel_rfl)) (by unfold Func.isWrapper;first | (rw [if_pos (by decide +kernel)];kernel_rfl) | (rw [if_neg (by decide +kernel)];exact⟨rfl,rfl⟩))
  (fun os started H enc _=>b50 os started H enc)
theorem proved:Rows.FnSnipFoundCardSaid:=
 Claim7.holds_tied_plain_at .later [] [.data,.mapped] true (true,"51286da14f3dff517baf43c07e881b93bf88a88cb747d3fbb6382aa75e795b74") false
  b4P (fun _ h=>by cases h) fW (fun _ h=>by cases h) fnSnipFound_row_tie rfl ⟨rfl,rfl⟩ fM rfl
  (fun f fn hf hfn=>by
   obtain rfl:f=4:=Option.some.inj (fN.symm.trans hf) |>.symm
   obtain rfl:fn=Tryz.f4:=(Option.some.inj (Tryz.func4.symm.trans hfn)).symm
   exact⟨fL,fun j t ht=>by
    rw [Tryz.params4] at ht
    have hm:t∈[50]:=by simpa using Array.mem_of_getElem? ht
    exact(show Tryz.prog.wantsStandIn t=false by simpa using List.all_eq_true.1 fS t hm)⟩)
  fG
end Go.Proofs.YtpdfkjjmcnhakaaGreatDoor.fnSnipFound
