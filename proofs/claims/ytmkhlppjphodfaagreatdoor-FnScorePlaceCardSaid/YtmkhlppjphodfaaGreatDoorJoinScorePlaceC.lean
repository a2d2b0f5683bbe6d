/-
  Closed facts on the row of 'laws.FnScorePlace', one by one.
-/
import Derived.Test.YtmkhlppjphodfaaGreatDoorRows
import Derived.Test.YtmkhlppjphodfaaGreatDoorChecked
import Derived.JoinedOf
import Derived.KernelRfl
namespace Go.Proofs.YtmkhlppjphodfaaGreatDoor.fnScorePlace
open Go
theorem jA : (Rows.fnScorePlaceRow.inPlace == Tryz.pinned.checked.prog.inPlace 4) = true := by kernel_rfl
theorem jB : (Rows.fnScorePlaceRow.unfollowed == Tryz.pinned.checked.prog.unfollowed 4) = true := by kernel_rfl
theorem jC : (Rows.fnScorePlaceRow.recurses == Tryz.pinned.checked.prog.recurses 4) = true := by kernel_rfl
theorem jD : (Rows.fnScorePlaceRow.named == Tryz.pinned.checked.prog.varsNamed 4) = true := by kernel_rfl
theorem jE : (Rows.fnScorePlaceRow.wf (OpenSpec.ofChange Rows.fnScorePlaceSpec) && laidOutB Tryz.pinned.checked.prog && mapsRowed Tryz.pinned.checked.prog) = true := by kernel_rfl
set_option maxRecDepth 100000 in
theorem b2I : joinedFacts Tryz.pinned.checked.prog 4 Tryz.f4 Rows.fnScorePlaceSpec Rows.fnScorePlaceRow = true := by
 unfold joinedFacts
 rw [jA, jB, jC, jD, jE]
 kernel_rfl
end Go.Proofs.YtmkhlppjphodfaaGreatDoor.fnScorePlace
