/-
  More b2z facts on the row of 'laws.FnSnipFound'.
-/
import Derived.Test.YtpdfkjjmcnhakaaGreatDoorRows
import Derived.Test.YtpdfkjjmcnhakaaGreatDoorChecked
import Derived.SevenTiedAt
import Derived.KernelRfl
namespace Go.Proofs.YtpdfkjjmcnhakaaGreatDoor.fnSnipFound
open Go
theorem fW:Rows.fnSnipFoundRow.wfByText (OpenSpec.ofChange Rows.fnSnipFoundSpec)=true:=by kernel_rfl
theorem fM:Tryz.pinned.checked.prog.mainIs=some (true,"51286da14f3dff517baf43c07e881b93bf88a88cb747d3fbb6382aa75e795b74".toList):=by kernel_rfl
theorem fN:Tryz.prog.funcNamed "loop.example/fossick/laws.FnSnipFound" =some 4:=by kernel_rfl
theorem fL:false=Tryz.pinned.checked.prog.looks []:=by kernel_rfl
theorem fS:([50].all fun u=> !Tryz.prog.wantsStandIn u)=true:=by kernel_rfl
theorem fG:false=Rows.fnSnipFoundRow.goesBy Tryz.pinned.checked.prog:=by kernel_rfl
end Go.Proofs.YtpdfkjjmcnhakaaGreatDoor.fnSnipFound
