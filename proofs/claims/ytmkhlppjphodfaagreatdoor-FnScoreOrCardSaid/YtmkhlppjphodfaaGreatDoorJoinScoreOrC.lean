/-
  Closed facts on the row of 'laws.FnScoreOr', one by one.
-/
import Derived.Test.YtmkhlppjphodfaaGreatDoorRows
import Derived.Test.YtmkhlppjphodfaaGreatDoorChecked
import Derived.JoinedOf
import Derived.KernelRfl
namespace Go.Proofs.YtmkhlppjphodfaaGreatDoor.fnScoreOr
open Go
theorem jA : (Rows.fnScoreOrRow.inPlace == Tryz.pinned.checked.prog.inPlace 9) = true := by kernel_rfl
theorem jB : (Rows.fnScoreOrRow.unfollowed == Tryz.pinned.checked.prog.unfollowed 9) = true := by kernel_rfl
theorem jC : (Rows.fnScoreOrRow.recurses == Tryz.pinned.checked.prog.recurses 9) = true := by kernel_rfl
theorem jD : (Rows.fnScoreOrRow.named == Tryz.pinned.checked.prog.varsNamed 9) = true := by kernel_rfl
theorem jE : (Rows.fnScoreOrRow.wf (OpenSpec.ofChange Rows.fnScoreOrSpec) && laidOutB Tryz.pinned.checked.prog && mapsRowed Tryz.pinned.checked.prog) = true := by kernel_rfl
set_option maxRecDepth 100000 in
theorem b2I : joinedFacts Tryz.pinned.checked.prog 9 Tryz.f9 Rows.fnScoreOrSpec Rows.fnScoreOrRow = true := by
 unfold joinedFacts
 rw [jA, jB, jC, jD, jE]
 kernel_rfl
end Go.Proofs.YtmkhlppjphodfaaGreatDoor.fnScoreOr
