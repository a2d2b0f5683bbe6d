/-
  The laws' own models. Printed by gen.py.
-/
import Derived.Test.YtmkhlppjphodfaaGreatDoorModel
set_option linter.unusedVariables false
namespace Go.Fk
open Go
def a2p (F : Nat) (q0 : List UInt8) (q1 : List UInt8) : Option Bool := (((cond (decide (1048576 < (q0.length : Int))) (some true) (some (decide (1048576 < (q1.length : Int))))) : Option Bool).bind fun o11 => (cond o11 (some true) ((N1 F q0).bind fun r22 => ((N1 F q1).bind fun r80 => ((N9 F r22.1 r22.2.1 r22.2.2.1 r22.2.2.2).bind fun r138 => ((((V0 F r22.1 r22.2.1 r22.2.2.1 r22.2.2.2).bind fun r166 => (cond (!(r138 == r166)) (some true) ((U5 F (r5.mk 8 [] [] 0 0 ([r22.2.2.1, r80.2.2.1] : List r5))).bind fun r182 => (cond (!r182) (some true) ((a0S F r22.1 r22.2.1).bind fun r197 => (some (!r197))))))) : Option Bool).bind fun o159 => (cond o159 ((V0 F r22.1 r22.2.1 r22.2.2.1 r22.2.2.2).bind fun r212 => (some (r138 == r212))) ((N9 F r22.1 r22.2.1 (r5.mk 8 [] [] 0 0 ([r22.2.2.1, r80.2.2.1] : List r5)) r22.2.2.2).bind fun r234 => ((N9 F r22.1 r22.2.1 r80.2.2.1 r22.2.2.2).bind fun r243 => (cond (r234 == (u6 (r138 + r243))) ((N9 F r22.1 r22.2.1 (r5.mk 8 [] [] 0 0 ([r80.2.2.1, r22.2.2.1] : List r5)) r22.2.2.2).bind fun r254 => (some (r254 == r234))) (some false)))))))))))
end Go.Fk
