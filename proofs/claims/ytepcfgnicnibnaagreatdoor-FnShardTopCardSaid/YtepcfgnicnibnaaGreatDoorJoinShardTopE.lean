/-
  More a4I facts on the row of 'laws.FnShardTop'.
-/
import Derived.Test.YtepcfgnicnibnaaGreatDoorRows
import Derived.Test.YtepcfgnicnibnaaGreatDoorChecked
import Derived.SevenTiedAt
import Derived.KernelRfl
namespace Go.Proofs.YtepcfgnicnibnaaGreatDoor.fnShardTop
open Go
theorem fW:Rows.fnShardTopRow.wfByText (OpenSpec.ofChange Rows.fnShardTopSpec)=true:=by kernel_rfl
theorem fM:Tryz.pinned.checked.prog.mainIs=some (true,"d96f2da7b8e612c9ca95e99ae8cc2a5c374843375510afbdc68363c062b93749".toList):=by kernel_rfl
theorem fN:Tryz.prog.funcNamed "loop.example/fossick/laws.FnShardTop" =some 5:=by kernel_rfl
theorem fL:false=Tryz.pinned.checked.prog.looks []:=by kernel_rfl
theorem fS:([22].all fun u=> !Tryz.prog.wantsStandIn u)=true:=by kernel_rfl
theorem fG:false=Rows.fnShardTopRow.goesBy Tryz.pinned.checked.prog:=by kernel_rfl
end Go.Proofs.YtepcfgnicnibnaaGreatDoor.fnShardTop
