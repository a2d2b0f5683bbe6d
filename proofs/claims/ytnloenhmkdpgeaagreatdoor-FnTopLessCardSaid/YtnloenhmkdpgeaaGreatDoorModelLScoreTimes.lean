/-
  The laws' own models. Printed by gen.py.
-/
import Derived.Test.YtnloenhmkdpgeaaGreatDoorModel
set_option linter.unusedVariables false
namespace Go.Fk
open Go
def a1h (F:Nat)(q0:List UInt8)(q1:List UInt8):Option Bool:=(((cond (decide (1048576<(q0.length:Int))) (some true) (some (decide (1048576<(q1.length:Int))))):Option Bool).bind fun o11=>(cond o11 (some true) ((a0p F q0).bind fun r23=>((N5 F r23.1 r23.2.1 r23.2.2.1 r23.2.2.2).bind fun r81=>((a6g (q1.length:Int) 8).bind fun x90=>((((Q9 F r23.1 r23.2.1 r23.2.2.1 r23.2.2.2).bind fun r112=>(cond (!(r81==r112)) (some true) ((N4 F (q7.mk 10 [] [] (z8 (2+x90)) 0 ([r23.2.2.1]:List q7))).bind fun r127=>(cond (!r127) (some true) ((H8 F r23.1 r23.2.1).bind fun r141=>(some (!r141))))))):Option Bool).bind fun o105=>(cond o105 ((Q9 F r23.1 r23.2.1 r23.2.2.1 r23.2.2.2).bind fun r155=>(some (r81==r155))) ((N5 F r23.1 r23.2.1 (q7.mk 10 [] [] (z8 (2+x90)) 0 ([r23.2.2.1]:List q7)) r23.2.2.2).bind fun r167=>(cond (r167==(z8 ((z8 (2+x90))*r81))) ((I4 F r23.1 r23.2.1 (q7.mk 10 [] [] (z8 (2+x90)) 0 ([r23.2.2.1]:List q7))).bind fun r178=>((I4 F r23.1 r23.2.1 r23.2.2.1).bind fun r190=>((V5 F r178 r190).bind fun r202=>(some r202)))) (some false))))))))))
end Go.Fk
