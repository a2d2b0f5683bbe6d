/-
  Closed facts on the row of 'laws.FnScoreFlat', one by one.
-/
import Derived.Test.YtnloenhmkdpgeaaGreatDoorRows
import Derived.Test.YtnloenhmkdpgeaaGreatDoorChecked
import Derived.JoinedOf
import Derived.KernelRfl
namespace Go.Proofs.YtnloenhmkdpgeaaGreatDoor.fnScoreFlat
open Go
theorem jA:(Rows.fnScoreFlatRow.inPlace==Tryz.pinned.checked.prog.inPlace 10)=true:=by kernel_rfl
theorem jB:(Rows.fnScoreFlatRow.unfollowed==Tryz.pinned.checked.prog.unfollowed 10)=true:=by kernel_rfl
theorem jC:(Rows.fnScoreFlatRow.recurses==Tryz.pinned.checked.prog.recurses 10)=true:=by kernel_rfl
theorem jD:(Rows.fnScoreFlatRow.named==Tryz.pinned.checked.prog.varsNamed 10)=true:=by kernel_rfl
theorem jE:(Rows.fnScoreFlatRow.wf (OpenSpec.ofChange Rows.fnScoreFlatSpec)&&laidOutB Tryz.pinned.checked.prog&&mapsRowed Tryz.pinned.checked.prog)=true:=by kernel_rfl
set_option maxRecDepth 100000 in
theorem V1:joinedFacts Tryz.pinned.checked.prog 10 Tryz.f10 Rows.fnScoreFlatSpec Rows.fnScoreFlatRow=true:=by
 unfold joinedFacts
 rw [jA,jB,jC,jD,jE]
 kernel_rfl
end Go.Proofs.YtnloenhmkdpgeaaGreatDoor.fnScoreFlat
