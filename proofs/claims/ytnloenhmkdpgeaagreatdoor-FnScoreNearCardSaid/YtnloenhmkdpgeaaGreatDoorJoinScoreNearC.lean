/-
  Closed facts on the row of 'laws.FnScoreNear', one by one.
-/
import Derived.Test.YtnloenhmkdpgeaaGreatDoorRows
import Derived.Test.YtnloenhmkdpgeaaGreatDoorChecked
import Derived.JoinedOf
import Derived.KernelRfl
namespace Go.Proofs.YtnloenhmkdpgeaaGreatDoor.fnScoreNear
open Go
theorem jA:(Rows.fnScoreNearRow.inPlace==Tryz.pinned.checked.prog.inPlace 11)=true:=by kernel_rfl
theorem jB:(Rows.fnScoreNearRow.unfollowed==Tryz.pinned.checked.prog.unfollowed 11)=true:=by kernel_rfl
theorem jC:(Rows.fnScoreNearRow.recurses==Tryz.pinned.checked.prog.recurses 11)=true:=by kernel_rfl
theorem jD:(Rows.fnScoreNearRow.named==Tryz.pinned.checked.prog.varsNamed 11)=true:=by kernel_rfl
theorem jE:(Rows.fnScoreNearRow.wf (OpenSpec.ofChange Rows.fnScoreNearSpec)&&laidOutB Tryz.pinned.checked.prog&&mapsRowed Tryz.pinned.checked.prog)=true:=by kernel_rfl
set_option maxRecDepth 100000 in
theorem V1:joinedFacts Tryz.pinned.checked.prog 11 Tryz.f11 Rows.fnScoreNearSpec Rows.fnScoreNearRow=true:=by
 unfold joinedFacts
 rw [jA,jB,jC,jD,jE]
 kernel_rfl
end Go.Proofs.YtnloenhmkdpgeaaGreatDoor.fnScoreNear
