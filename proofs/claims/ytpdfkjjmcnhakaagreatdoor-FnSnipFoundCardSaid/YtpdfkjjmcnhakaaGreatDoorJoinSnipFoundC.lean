/-
  Closed facts on the row of 'laws.FnSnipFound', one by one.
-/
import Derived.Test.YtpdfkjjmcnhakaaGreatDoorRows
import Derived.Test.YtpdfkjjmcnhakaaGreatDoorChecked
import Derived.JoinedOf
import Derived.KernelRfl
namespace Go.Proofs.YtpdfkjjmcnhakaaGreatDoor.fnSnipFound
open Go
theorem jA:(Rows.fnSnipFoundRow.inPlace==Tryz.pinned.checked.prog.inPlace 4)=true:=by kernel_rfl
theorem jB:(Rows.fnSnipFoundRow.unfollowed==Tryz.pinned.checked.prog.unfollowed 4)=true:=by kernel_rfl
theorem jC:(Rows.fnSnipFoundRow.recurses==Tryz.pinned.checked.prog.recurses 4)=true:=by kernel_rfl
theorem jD:(Rows.fnSnipFoundRow.named==Tryz.pinned.checked.prog.varsNamed 4)=true:=by kernel_rfl
theorem jE:(Rows.fnSnipFoundRow.wf (OpenSpec.ofChange Rows.fnSnipFoundSpec)&&laidOutB Tryz.pinned.checked.prog&&mapsRowed Tryz.pinned.checked.prog)=true:=by kernel_rfl
set_option maxRecDepth 100000 in
theorem b2z:joinedFacts Tryz.pinned.checked.prog 4 Tryz.f4 Rows.fnSnipFoundSpec Rows.fnSnipFoundRow=true:=by
 unfold joinedFacts
 rw [jA,jB,jC,jD,jE]
 kernel_rfl
end Go.Proofs.YtpdfkjjmcnhakaaGreatDoor.fnSnipFound
