/-
  The laws' own models. Printed by gen.py.
-/
import Derived.Test.YtnloenhmkdpgeaaGreatDoorModel
set_option linter.unusedVariables false
namespace Go.Fk
open Go
def k8 (F:Nat)(q0:List UInt8):Option Bool:=(cond (decide (1048576<(q0.length:Int))) (some true) ((k5 F q0).bind fun r9=>((k7 F r9.1 r9.2.1 r9.2.2.1 r9.2.2.2.1 r9.2.2.2.2).bind fun r76=>((((k6 F r9.1 r9.2.1 r9.2.2.1 r9.2.2.2.1 r9.2.2.2.2).bind fun r95=>((M5 F r76 r95).bind fun r107=>(cond (!r107) (some true) ((H8 F r9.1 r9.2.1).bind fun r122=>(cond (!r122) (some true) (some (decide (r9.2.2.2.1<1)))))))):Option Bool).bind fun o88=>(cond o88 ((k6 F r9.1 r9.2.1 r9.2.2.1 r9.2.2.2.1 r9.2.2.2.2).bind fun r144=>((M5 F r76 r144).bind fun r156=>(some r156))) ((R3 F r9.1 r9.2.1 r9.2.2.1 16).bind fun r165=>((((y2 (σ:=(List E3)×Int) (τ:=(List E3)) (fun (s194:(List E3)×Int)=>(((cond (decide (s194.2<(r165.length:Int))) (some (decide ((s194.1.length:Int)<r9.2.2.2.1))) (some false)):Option Bool).bind fun o212=>(cond o212 ((v8 r165 s194.2).bind fun x223=>((a2I F r9.2.2.2.2 x223).bind fun r234=>(cond r234 ((v8 r165 s194.2).bind fun x247=>((O2 16 s194.1 ([x247]:List E3)).bind fun x265=>(some (.inl (x265,(z8 (s194.2+1))))))) (some (.inl (s194.1,(z8 (s194.2+1)))))))) (some (.inr s194.1))))) F ([],0)).bind fun r195=>(some r195)):Option (List E3)).bind fun o183=>((M5 F r76 o183).bind fun r280=>(some r280)))))))))
end Go.Fk
