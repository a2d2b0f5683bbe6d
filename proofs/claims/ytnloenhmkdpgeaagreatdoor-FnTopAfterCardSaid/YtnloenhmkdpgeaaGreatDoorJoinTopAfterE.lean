/-
  More V1 facts on the row of 'laws.FnTopAfter'.
-/
import Derived.Test.YtnloenhmkdpgeaaGreatDoorRows
import Derived.Test.YtnloenhmkdpgeaaGreatDoorChecked
import Derived.SevenTiedAt
import Derived.KernelRfl
namespace Go.Proofs.YtnloenhmkdpgeaaGreatDoor.fnTopAfter
open Go
theorem fW:Rows.fnTopAfterRow.wfByText (OpenSpec.ofChange Rows.fnTopAfterSpec)=true:=by kernel_rfl
theorem fM:Tryz.pinned.checked.prog.mainIs=some (true,"41dcb77eb32479d1c527a448b43f78800be103f64cc31ce4e38b8f9a0b40aaa3".toList):=by kernel_rfl
theorem fN:Tryz.prog.funcNamed "loop.example/fossick/laws.FnTopAfter" =some 14:=by kernel_rfl
theorem fL:false=Tryz.pinned.checked.prog.looks []:=by kernel_rfl
theorem fS:([22].all fun u=> !Tryz.prog.wantsStandIn u)=true:=by kernel_rfl
theorem fG:false=Rows.fnTopAfterRow.goesBy Tryz.pinned.checked.prog:=by kernel_rfl
end Go.Proofs.YtnloenhmkdpgeaaGreatDoor.fnTopAfter
