/-
  Closed facts on the row of 'laws.FnTopOf', one by one.
-/
import Derived.Test.YtnloenhmkdpgeaaGreatDoorRows
import Derived.Test.YtnloenhmkdpgeaaGreatDoorChecked
import Derived.JoinedOf
import Derived.KernelRfl
namespace Go.Proofs.YtnloenhmkdpgeaaGreatDoor.fnTopOf
open Go
theorem jA:(Rows.fnTopOfRow.inPlace==Tryz.pinned.checked.prog.inPlace 12)=true:=by kernel_rfl
theorem jB:(Rows.fnTopOfRow.unfollowed==Tryz.pinned.checked.prog.unfollowed 12)=true:=by kernel_rfl
theorem jC:(Rows.fnTopOfRow.recurses==Tryz.pinned.checked.prog.recurses 12)=true:=by kernel_rfl
theorem jD:(Rows.fnTopOfRow.named==Tryz.pinned.checked.prog.varsNamed 12)=true:=by kernel_rfl
theorem jE:(Rows.fnTopOfRow.wf (OpenSpec.ofChange Rows.fnTopOfSpec)&&laidOutB Tryz.pinned.checked.prog&&mapsRowed Tryz.pinned.checked.prog)=true:=by kernel_rfl
set_option maxRecDepth 100000 in
theorem V1:joinedFacts Tryz.pinned.checked.prog 12 Tryz.f12 Rows.fnTopOfSpec Rows.fnTopOfRow=true:=by
 unfold joinedFacts
 rw [jA,jB,jC,jD,jE]
 kernel_rfl
end Go.Proofs.YtnloenhmkdpgeaaGreatDoor.fnTopOf
