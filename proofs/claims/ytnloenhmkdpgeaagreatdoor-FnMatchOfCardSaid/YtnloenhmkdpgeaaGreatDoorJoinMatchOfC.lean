/-
  Closed facts on the row of 'laws.FnMatchOf', one by one.
-/
import Derived.Test.YtnloenhmkdpgeaaGreatDoorRows
import Derived.Test.YtnloenhmkdpgeaaGreatDoorChecked
import Derived.JoinedOf
import Derived.KernelRfl
namespace Go.Proofs.YtnloenhmkdpgeaaGreatDoor.fnMatchOf
open Go
theorem jA:(Rows.fnMatchOfRow.inPlace==Tryz.pinned.checked.prog.inPlace 9)=true:=by kernel_rfl
theorem jB:(Rows.fnMatchOfRow.unfollowed==Tryz.pinned.checked.prog.unfollowed 9)=true:=by kernel_rfl
theorem jC:(Rows.fnMatchOfRow.recurses==Tryz.pinned.checked.prog.recurses 9)=true:=by kernel_rfl
theorem jD:(Rows.fnMatchOfRow.named==Tryz.pinned.checked.prog.varsNamed 9)=true:=by kernel_rfl
theorem jE:(Rows.fnMatchOfRow.wf (OpenSpec.ofChange Rows.fnMatchOfSpec)&&laidOutB Tryz.pinned.checked.prog&&mapsRowed Tryz.pinned.checked.prog)=true:=by kernel_rfl
set_option maxRecDepth 100000 in
theorem V1:joinedFacts Tryz.pinned.checked.prog 9 Tryz.f9 Rows.fnMatchOfSpec Rows.fnMatchOfRow=true:=by
 unfold joinedFacts
 rw [jA,jB,jC,jD,jE]
 kernel_rfl
end Go.Proofs.YtnloenhmkdpgeaaGreatDoor.fnMatchOf
