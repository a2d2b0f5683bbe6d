/-
  Closed facts on the row of 'laws.FnScoreAnd', one by one.
-/
import Derived.Test.YtmkhlppjphodfaaGreatDoorRows
import Derived.Test.YtmkhlppjphodfaaGreatDoorChecked
import Derived.JoinedOf
import Derived.KernelRfl
namespace Go.Proofs.YtmkhlppjphodfaaGreatDoor.fnScoreAnd
open Go
theorem jA : (Rows.fnScoreAndRow.inPlace == Tryz.pinned.checked.prog.inPlace 7) = true := by kernel_rfl
theorem jB : (Rows.fnScoreAndRow.unfollowed == Tryz.pinned.checked.prog.unfollowed 7) = true := by kernel_rfl
theorem jC : (Rows.fnScoreAndRow.recurses == Tryz.pinned.checked.prog.recurses 7) = true := by kernel_rfl
theorem jD : (Rows.fnScoreAndRow.named == Tryz.pinned.checked.prog.varsNamed 7) = true := by kernel_rfl
theorem jE : (Rows.fnScoreAndRow.wf (OpenSpec.ofChange Rows.fnScoreAndSpec) && laidOutB Tryz.pinned.checked.prog && mapsRowed Tryz.pinned.checked.prog) = true := by kernel_rfl
set_option maxRecDepth 100000 in
theorem b2I : joinedFacts Tryz.pinned.checked.prog 7 Tryz.f7 Rows.fnScoreAndSpec Rows.fnScoreAndRow = true := by
 unfold joinedFacts
 rw [jA, jB, jC, jD, jE]
 kernel_rfl
end Go.Proofs.YtmkhlppjphodfaaGreatDoor.fnScoreAnd
