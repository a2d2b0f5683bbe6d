/-
  Closed facts on the row of 'laws.FnTopTimes', one by one.
-/
import Derived.Test.YtnloenhmkdpgeaaGreatDoorRows
import Derived.Test.YtnloenhmkdpgeaaGreatDoorChecked
import Derived.JoinedOf
import Derived.KernelRfl
namespace Go.Proofs.YtnloenhmkdpgeaaGreatDoor.fnTopTimes
open Go
theorem jA:(Rows.fnTopTimesRow.inPlace==Tryz.pinned.checked.prog.inPlace 8)=true:=by kernel_rfl
theorem jB:(Rows.fnTopTimesRow.unfollowed==Tryz.pinned.checked.prog.unfollowed 8)=true:=by kernel_rfl
theorem jC:(Rows.fnTopTimesRow.recurses==Tryz.pinned.checked.prog.recurses 8)=true:=by kernel_rfl
theorem jD:(Rows.fnTopTimesRow.named==Tryz.pinned.checked.prog.varsNamed 8)=true:=by kernel_rfl
theorem jE:(Rows.fnTopTimesRow.wf (OpenSpec.ofChange Rows.fnTopTimesSpec)&&laidOutB Tryz.pinned.checked.prog&&mapsRowed Tryz.pinned.checked.prog)=true:=by kernel_rfl
set_option maxRecDepth 100000 in
theorem V1:joinedFacts Tryz.pinned.checked.prog 8 Tryz.f8 Rows.fnTopTimesSpec Rows.fnTopTimesRow=true:=by
 unfold joinedFacts
 rw [jA,jB,jC,jD,jE]
 kernel_rfl
end Go.Proofs.YtnloenhmkdpgeaaGreatDoor.fnTopTimes
