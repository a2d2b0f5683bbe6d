/-
  The laws' own models. Printed by gen.py.
-/
import Derived.Test.YtnloenhmkdpgeaaGreatDoorModel
set_option linter.unusedVariables false
namespace Go.Fk
open Go
def a3j (F:Nat)(q0:List UInt8)(q1:List UInt8):Option Bool:=(((cond (decide (1048576<(q0.length:Int))) (some true) (some (decide (1048576<(q1.length:Int))))):Option Bool).bind fun o11=>(cond o11 (some true) ((P5 F q0).bind fun r23=>((P5 F q1).bind fun r81=>((R3 F r23.1 r23.2.1 r23.2.2.1 r23.2.2.2).bind fun r139=>((((R5 F r23.1 r23.2.1 r23.2.2.1 r23.2.2.2).bind fun r170=>((M5 F r139 r170).bind fun r182=>(cond (!r182) (some true) ((H8 F r23.1 r23.2.1).bind fun r197=>(cond (!r197) (some true) ((N4 F (q7.mk 9 [] [] 0 0 ([r23.2.2.1,r81.2.2.1]:List q7))).bind fun r212=>(some (!r212)))))))):Option Bool).bind fun o163=>(cond o163 ((R5 F r23.1 r23.2.1 r23.2.2.1 r23.2.2.2).bind fun r227=>((M5 F r139 r227).bind fun r239=>(some r239))) ((I4 F r23.1 r23.2.1 r81.2.2.1).bind fun r248=>((R3 F r23.1 r23.2.1 r23.2.2.1 16).bind fun r260=>((((y2 (σ:=(List E3)×Int) (τ:=(List E3)) (fun (s289:(List E3)×Int)=>(cond (decide (s289.2<(r260.length:Int))) ((v8 r260 s289.2).bind fun x311=>((a1H F r248 x311.Doc).bind fun r322=>(cond (!r322) ((v8 r260 s289.2).bind fun x332=>((O2 16 s289.1 ([x332]:List E3)).bind fun x350=>(some (.inl (x350,(z8 (s289.2+1))))))) (some (.inl (s289.1,(z8 (s289.2+1)))))))) (some (.inr s289.1)))) F ([],0)).bind fun r290=>(some r290)):Option (List E3)).bind fun o278=>((R3 F r23.1 r23.2.1 (q7.mk 9 [] [] 0 0 ([r23.2.2.1,r81.2.2.1]:List q7)) 16).bind fun r366=>((M5 F r366 o278).bind fun r378=>(some r378)))))))))))))
end Go.Fk
