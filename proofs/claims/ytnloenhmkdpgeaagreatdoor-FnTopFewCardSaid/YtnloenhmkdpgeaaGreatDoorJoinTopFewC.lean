/-
  Closed facts on the row of 'laws.FnTopFew', one by one.
-/
import Derived.Test.YtnloenhmkdpgeaaGreatDoorRows
import Derived.Test.YtnloenhmkdpgeaaGreatDoorChecked
import Derived.JoinedOf
import Derived.KernelRfl
namespace Go.Proofs.YtnloenhmkdpgeaaGreatDoor.fnTopFew
open Go
theorem jA:(Rows.fnTopFewRow.inPlace==Tryz.pinned.checked.prog.inPlace 7)=true:=by kernel_rfl
theorem jB:(Rows.fnTopFewRow.unfollowed==Tryz.pinned.checked.prog.unfollowed 7)=true:=by kernel_rfl
theorem jC:(Rows.fnTopFewRow.recurses==Tryz.pinned.checked.prog.recurses 7)=true:=by kernel_rfl
theorem jD:(Rows.fnTopFewRow.named==Tryz.pinned.checked.prog.varsNamed 7)=true:=by kernel_rfl
theorem jE:(Rows.fnTopFewRow.wf (OpenSpec.ofChange Rows.fnTopFewSpec)&&laidOutB Tryz.pinned.checked.prog&&mapsRowed Tryz.pinned.checked.prog)=true:=by kernel_rfl
set_option maxRecDepth 100000 in
theorem V1:joinedFacts Tryz.pinned.checked.prog 7 Tryz.f7 Rows.fnTopFewSpec Rows.fnTopFewRow=true:=by
 unfold joinedFacts
 rw [jA,jB,jC,jD,jE]
 kernel_rfl
end Go.Proofs.YtnloenhmkdpgeaaGreatDoor.fnTopFew
