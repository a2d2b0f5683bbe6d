/-
  More b2I facts on the row of 'laws.FnScoreOr'.
-/
import Derived.Test.YtmkhlppjphodfaaGreatDoorRows
import Derived.Test.YtmkhlppjphodfaaGreatDoorChecked
import Derived.SevenTiedAt
import Derived.KernelRfl
namespace Go.Proofs.YtmkhlppjphodfaaGreatDoor.fnScoreOr
open Go
theorem fW : Rows.fnScoreOrRow.wfByText (OpenSpec.ofChange Rows.fnScoreOrSpec) = true := by kernel_rfl
theorem fM : Tryz.pinned.checked.prog.mainIs = some (true, "564db4b15b60075e80879e2c33e26e602a92e05e576a1f7bb43f8547914554ee".toList) := by kernel_rfl
theorem fN : Tryz.prog.funcNamed "loop.example/fossick/laws.FnScoreOr" = some 9 := by kernel_rfl
theorem fL : false = Tryz.pinned.checked.prog.looks [] := by kernel_rfl
theorem fS : ([22, 22].all fun u => !Tryz.prog.wantsStandIn u) = true := by kernel_rfl
theorem fG : false = Rows.fnScoreOrRow.goesBy Tryz.pinned.checked.prog := by kernel_rfl
end Go.Proofs.YtmkhlppjphodfaaGreatDoor.fnScoreOr
