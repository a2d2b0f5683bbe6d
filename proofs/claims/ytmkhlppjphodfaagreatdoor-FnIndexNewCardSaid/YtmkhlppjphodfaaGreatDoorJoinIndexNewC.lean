/-
  Closed facts on the row of 'laws.FnIndexNew', one by one.
-/
import Derived.Test.YtmkhlppjphodfaaGreatDoorRows
import Derived.Test.YtmkhlppjphodfaaGreatDoorChecked
import Derived.JoinedOf
import Derived.KernelRfl
namespace Go.Proofs.YtmkhlppjphodfaaGreatDoor.fnIndexNew
open Go

theorem jA : (Rows.fnIndexNewRow.inPlace == Tryz.pinned.checked.prog.inPlace 3) = true := by kernel_rfl
theorem jB : (Rows.fnIndexNewRow.unfollowed == Tryz.pinned.checked.prog.unfollowed 3) = true := by kernel_rfl
theorem jC : (Rows.fnIndexNewRow.recurses == Tryz.pinned.checked.prog.recurses 3) = true := by kernel_rfl
theorem jD : (Rows.fnIndexNewRow.named == Tryz.pinned.checked.prog.varsNamed 3) = true := by kernel_rfl
theorem jE : (Rows.fnIndexNewRow.wf (OpenSpec.ofChange Rows.fnIndexNewSpec) && laidOutB Tryz.pinned.checked.prog && mapsRowed Tryz.pinned.checked.prog) = true := by kernel_rfl
set_option maxRecDepth 100000 in
theorem closed : joinedFacts Tryz.pinned.checked.prog 3 Tryz.f3 Rows.fnIndexNewSpec Rows.fnIndexNewRow = true := by
  unfold joinedFacts
  rw [jA, jB, jC, jD, jE]
  kernel_rfl
end Go.Proofs.YtmkhlppjphodfaaGreatDoor.fnIndexNew
