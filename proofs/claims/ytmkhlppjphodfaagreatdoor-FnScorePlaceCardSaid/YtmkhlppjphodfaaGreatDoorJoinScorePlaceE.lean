/-
  More b2I facts on the row of 'laws.FnScorePlace'.
-/
import Derived.Test.YtmkhlppjphodfaaGreatDoorRows
import Derived.Test.YtmkhlppjphodfaaGreatDoorChecked
import Derived.SevenTiedAt
import Derived.KernelRfl
namespace Go.Proofs.YtmkhlppjphodfaaGreatDoor.fnScorePlace
open Go
theorem fW : Rows.fnScorePlaceRow.wfByText (OpenSpec.ofChange Rows.fnScorePlaceSpec) = true := by kernel_rfl
theorem fM : Tryz.pinned.checked.prog.mainIs = some (true, "564db4b15b60075e80879e2c33e26e602a92e05e576a1f7bb43f8547914554ee".toList) := by kernel_rfl
theorem fN : Tryz.prog.funcNamed "loop.example/fossick/laws.FnScorePlace" = some 4 := by kernel_rfl
theorem fL : false = Tryz.pinned.checked.prog.looks [] := by kernel_rfl
theorem fS : ([22, 22].all fun u => !Tryz.prog.wantsStandIn u) = true := by kernel_rfl
theorem fG : false = Rows.fnScorePlaceRow.goesBy Tryz.pinned.checked.prog := by kernel_rfl
end Go.Proofs.YtmkhlppjphodfaaGreatDoor.fnScorePlace
