/-
  Closed facts on the row of 'laws.FnShardTop', one by one.
-/
import Derived.Test.YtepcfgnicnibnaaGreatDoorRows
import Derived.Test.YtepcfgnicnibnaaGreatDoorChecked
import Derived.JoinedOf
import Derived.KernelRfl
namespace Go.Proofs.YtepcfgnicnibnaaGreatDoor.fnShardTop
open Go
theorem jA:(Rows.fnShardTopRow.inPlace==Tryz.pinned.checked.prog.inPlace 5)=true:=by kernel_rfl
theorem jB:(Rows.fnShardTopRow.unfollowed==Tryz.pinned.checked.prog.unfollowed 5)=true:=by kernel_rfl
theorem jC:(Rows.fnShardTopRow.recurses==Tryz.pinned.checked.prog.recurses 5)=true:=by kernel_rfl
theorem jD:(Rows.fnShardTopRow.named==Tryz.pinned.checked.prog.varsNamed 5)=true:=by kernel_rfl
theorem jE:(Rows.fnShardTopRow.wf (OpenSpec.ofChange Rows.fnShardTopSpec)&&laidOutB Tryz.pinned.checked.prog&&mapsRowed Tryz.pinned.checked.prog)=true:=by kernel_rfl
set_option maxRecDepth 100000 in
theorem a4I:joinedFacts Tryz.pinned.checked.prog 5 Tryz.f5 Rows.fnShardTopSpec Rows.fnShardTopRow=true:=by
 unfold joinedFacts
 rw [jA,jB,jC,jD,jE]
 kernel_rfl
end Go.Proofs.YtepcfgnicnibnaaGreatDoor.fnShardTop
