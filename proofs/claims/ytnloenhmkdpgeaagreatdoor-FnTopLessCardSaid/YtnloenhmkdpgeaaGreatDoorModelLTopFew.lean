/-
  The laws' own models. Printed by gen.py.
-/
import Derived.Test.YtnloenhmkdpgeaaGreatDoorModel
set_option linter.unusedVariables false
namespace Go.Fk
open Go
def a3X (F:Nat)(q0:List UInt8):Option Bool:=(cond (decide (1048576<(q0.length:Int))) (some true) ((P5 F q0).bind fun r9=>((R3 F r9.1 r9.2.1 r9.2.2.1 r9.2.2.2).bind fun r67=>((((R5 F r9.1 r9.2.1 r9.2.2.1 r9.2.2.2).bind fun r86=>((M5 F r67 r86).bind fun r98=>(cond (!r98) (some true) ((H8 F r9.1 r9.2.1).bind fun r112=>(cond (!r112) (some true) (cond (decide (r9.2.2.2<1)) (some true) (some (decide (16<r9.2.2.2))))))))):Option Bool).bind fun o79=>(cond o79 ((R5 F r9.1 r9.2.1 r9.2.2.1 r9.2.2.2).bind fun r138=>((M5 F r67 r138).bind fun r150=>(some r150))) ((R3 F r9.1 r9.2.1 r9.2.2.1 16).bind fun r159=>(((cond (decide (r9.2.2.2<(r159.length:Int))) (some r9.2.2.2) (some (r159.length:Int))):Option Int).bind fun o171=>((a1G r159 0 o171).bind fun x183=>((M5 F r67 x183).bind fun r190=>(cond r190 ((I4 F r9.1 r9.2.1 r9.2.2.1).bind fun r200=>(some ((r159.length:Int)==(r200.length:Int)))) (some false)))))))))))
end Go.Fk
