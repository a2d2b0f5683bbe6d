/-
  Closed facts on the row of 'laws.FnPageNext', one by one.
-/
import Derived.Test.YtepcfgnicnibnaaGreatDoorRows
import Derived.Test.YtepcfgnicnibnaaGreatDoorChecked
import Derived.JoinedOf
import Derived.KernelRfl
namespace Go.Proofs.YtepcfgnicnibnaaGreatDoor.fnPageNext
open Go
theorem jA:(Rows.fnPageNextRow.inPlace==Tryz.pinned.checked.prog.inPlace 4)=true:=by kernel_rfl
theorem jB:(Rows.fnPageNextRow.unfollowed==Tryz.pinned.checked.prog.unfollowed 4)=true:=by kernel_rfl
theorem jC:(Rows.fnPageNextRow.recurses==Tryz.pinned.checked.prog.recurses 4)=true:=by kernel_rfl
theorem jD:(Rows.fnPageNextRow.named==Tryz.pinned.checked.prog.varsNamed 4)=true:=by kernel_rfl
theorem jE:(Rows.fnPageNextRow.wf (OpenSpec.ofChange Rows.fnPageNextSpec)&&laidOutB Tryz.pinned.checked.prog&&mapsRowed Tryz.pinned.checked.prog)=true:=by kernel_rfl
set_option maxRecDepth 100000 in
theorem a4I:joinedFacts Tryz.pinned.checked.prog 4 Tryz.f4 Rows.fnPageNextSpec Rows.fnPageNextRow=true:=by
 unfold joinedFacts
 rw [jA,jB,jC,jD,jE]
 kernel_rfl
end Go.Proofs.YtepcfgnicnibnaaGreatDoor.fnPageNext
