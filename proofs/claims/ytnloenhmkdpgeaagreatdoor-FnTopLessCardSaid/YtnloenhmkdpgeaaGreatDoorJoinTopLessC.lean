/-
  Closed facts on the row of 'laws.FnTopLess', one by one.
-/
import Derived.Test.YtnloenhmkdpgeaaGreatDoorRows
import Derived.Test.YtnloenhmkdpgeaaGreatDoorChecked
import Derived.JoinedOf
import Derived.KernelRfl
namespace Go.Proofs.YtnloenhmkdpgeaaGreatDoor.fnTopLess
open Go
theorem jA:(Rows.fnTopLessRow.inPlace==Tryz.pinned.checked.prog.inPlace 13)=true:=by kernel_rfl
theorem jB:(Rows.fnTopLessRow.unfollowed==Tryz.pinned.checked.prog.unfollowed 13)=true:=by kernel_rfl
theorem jC:(Rows.fnTopLessRow.recurses==Tryz.pinned.checked.prog.recurses 13)=true:=by kernel_rfl
theorem jD:(Rows.fnTopLessRow.named==Tryz.pinned.checked.prog.varsNamed 13)=true:=by kernel_rfl
theorem jE:(Rows.fnTopLessRow.wf (OpenSpec.ofChange Rows.fnTopLessSpec)&&laidOutB Tryz.pinned.checked.prog&&mapsRowed Tryz.pinned.checked.prog)=true:=by kernel_rfl
set_option maxRecDepth 100000 in
theorem V1:joinedFacts Tryz.pinned.checked.prog 13 Tryz.f13 Rows.fnTopLessSpec Rows.fnTopLessRow=true:=by
 unfold joinedFacts
 rw [jA,jB,jC,jD,jE]
 kernel_rfl
end Go.Proofs.YtnloenhmkdpgeaaGreatDoor.fnTopLess
