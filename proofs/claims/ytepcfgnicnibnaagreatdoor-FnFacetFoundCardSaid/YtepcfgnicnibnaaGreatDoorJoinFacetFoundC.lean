/-
  Closed facts on the row of 'laws.FnFacetFound', one by one.
-/
import Derived.Test.YtepcfgnicnibnaaGreatDoorRows
import Derived.Test.YtepcfgnicnibnaaGreatDoorChecked
import Derived.JoinedOf
import Derived.KernelRfl
namespace Go.Proofs.YtepcfgnicnibnaaGreatDoor.fnFacetFound
open Go
theorem jA:(Rows.fnFacetFoundRow.inPlace==Tryz.pinned.checked.prog.inPlace 6)=true:=by kernel_rfl
theorem jB:(Rows.fnFacetFoundRow.unfollowed==Tryz.pinned.checked.prog.unfollowed 6)=true:=by kernel_rfl
theorem jC:(Rows.fnFacetFoundRow.recurses==Tryz.pinned.checked.prog.recurses 6)=true:=by kernel_rfl
theorem jD:(Rows.fnFacetFoundRow.named==Tryz.pinned.checked.prog.varsNamed 6)=true:=by kernel_rfl
theorem jE:(Rows.fnFacetFoundRow.wf (OpenSpec.ofChange Rows.fnFacetFoundSpec)&&laidOutB Tryz.pinned.checked.prog&&mapsRowed Tryz.pinned.checked.prog)=true:=by kernel_rfl
set_option maxRecDepth 100000 in
theorem a4I:joinedFacts Tryz.pinned.checked.prog 6 Tryz.f6 Rows.fnFacetFoundSpec Rows.fnFacetFoundRow=true:=by
 unfold joinedFacts
 rw [jA,jB,jC,jD,jE]
 kernel_rfl
end Go.Proofs.YtepcfgnicnibnaaGreatDoor.fnFacetFound
