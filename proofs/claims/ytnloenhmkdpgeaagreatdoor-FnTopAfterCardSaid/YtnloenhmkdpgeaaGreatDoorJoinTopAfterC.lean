/-
  Closed facts on the row of 'laws.FnTopAfter', one by one.
-/
import Derived.Test.YtnloenhmkdpgeaaGreatDoorRows
import Derived.Test.YtnloenhmkdpgeaaGreatDoorChecked
import Derived.JoinedOf
import Derived.KernelRfl
namespace Go.Proofs.YtnloenhmkdpgeaaGreatDoor.fnTopAfter
open Go
theorem jA:(Rows.fnTopAfterRow.inPlace==Tryz.pinned.checked.prog.inPlace 14)=true:=by kernel_rfl
theorem jB:(Rows.fnTopAfterRow.unfollowed==Tryz.pinned.checked.prog.unfollowed 14)=true:=by kernel_rfl
theorem jC:(Rows.fnTopAfterRow.recurses==Tryz.pinned.checked.prog.recurses 14)=true:=by kernel_rfl
theorem jD:(Rows.fnTopAfterRow.named==Tryz.pinned.checked.prog.varsNamed 14)=true:=by kernel_rfl
theorem jE:(Rows.fnTopAfterRow.wf (OpenSpec.ofChange Rows.fnTopAfterSpec)&&laidOutB Tryz.pinned.checked.prog&&mapsRowed Tryz.pinned.checked.prog)=true:=by kernel_rfl
set_option maxRecDepth 100000 in
theorem V1:joinedFacts Tryz.pinned.checked.prog 14 Tryz.f14 Rows.fnTopAfterSpec Rows.fnTopAfterRow=true:=by
 unfold joinedFacts
 rw [jA,jB,jC,jD,jE]
 kernel_rfl
end Go.Proofs.YtnloenhmkdpgeaaGreatDoor.fnTopAfter
