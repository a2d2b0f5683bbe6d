/-
  Closed facts on the row of 'laws.FnScoreLess', one by one.
-/
import Derived.Test.YtmkhlppjphodfaaGreatDoorRows
import Derived.Test.YtmkhlppjphodfaaGreatDoorChecked
import Derived.JoinedOf
import Derived.KernelRfl
namespace Go.Proofs.YtmkhlppjphodfaaGreatDoor.fnScoreLess
open Go
theorem jA : (Rows.fnScoreLessRow.inPlace == Tryz.pinned.checked.prog.inPlace 8) = true := by kernel_rfl
theorem jB : (Rows.fnScoreLessRow.unfollowed == Tryz.pinned.checked.prog.unfollowed 8) = true := by kernel_rfl
theorem jC : (Rows.fnScoreLessRow.recurses == Tryz.pinned.checked.prog.recurses 8) = true := by kernel_rfl
theorem jD : (Rows.fnScoreLessRow.named == Tryz.pinned.checked.prog.varsNamed 8) = true := by kernel_rfl
theorem jE : (Rows.fnScoreLessRow.wf (OpenSpec.ofChange Rows.fnScoreLessSpec) && laidOutB Tryz.pinned.checked.prog && mapsRowed Tryz.pinned.checked.prog) = true := by kernel_rfl
set_option maxRecDepth 100000 in
theorem b2I : joinedFacts Tryz.pinned.checked.prog 8 Tryz.f8 Rows.fnScoreLessSpec Rows.fnScoreLessRow = true := by
 unfold joinedFacts
 rw [jA, jB, jC, jD, jE]
 kernel_rfl
end Go.Proofs.YtmkhlppjphodfaaGreatDoor.fnScoreLess
