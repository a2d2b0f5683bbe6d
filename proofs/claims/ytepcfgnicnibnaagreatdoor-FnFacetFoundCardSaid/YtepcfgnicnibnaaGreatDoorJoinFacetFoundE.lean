/-
  More a4I facts on the row of 'laws.FnFacetFound'.
-/
import Derived.Test.YtepcfgnicnibnaaGreatDoorRows
import Derived.Test.YtepcfgnicnibnaaGreatDoorChecked
import Derived.SevenTiedAt
import Derived.KernelRfl
namespace Go.Proofs.YtepcfgnicnibnaaGreatDoor.fnFacetFound
open Go
theorem fW:Rows.fnFacetFoundRow.wfByText (OpenSpec.ofChange Rows.fnFacetFoundSpec)=true:=by kernel_rfl
theorem fM:Tryz.pinned.checked.prog.mainIs=some (true,"d96f2da7b8e612c9ca95e99ae8cc2a5c374843375510afbdc68363c062b93749".toList):=by kernel_rfl
theorem fN:Tryz.prog.funcNamed "loop.example/fossick/laws.FnFacetFound" =some 6:=by kernel_rfl
theorem fL:false=Tryz.pinned.checked.prog.looks []:=by kernel_rfl
theorem fS:([22].all fun u=> !Tryz.prog.wantsStandIn u)=true:=by kernel_rfl
theorem fG:false=Rows.fnFacetFoundRow.goesBy Tryz.pinned.checked.prog:=by kernel_rfl
end Go.Proofs.YtepcfgnicnibnaaGreatDoor.fnFacetFound
