/-
  The laws' own models. Printed by gen.py.
-/
import Derived.Test.YtnloenhmkdpgeaaGreatDoorModel
set_option linter.unusedVariables false
namespace Go.Fk
open Go
def a3i (F:Nat)(q0:List UInt8):Option Bool:=(cond (decide (1048576<(q0.length:Int))) (some true) ((a0n F q0).bind fun r9=>((I4 F r9.1 r9.2.1 r9.2.2).bind fun r67=>((((a1n F r9.1 r9.2.1 r9.2.2).bind fun r86=>((V5 F r67 r86).bind fun r98=>(cond (!r98) (some true) ((H8 F r9.1 r9.2.1).bind fun r112=>(cond (!r112) (some true) ((N4 F r9.2.2).bind fun r126=>(some (!r126)))))))):Option Bool).bind fun o79=>(cond o79 ((a1n F r9.1 r9.2.1 r9.2.2).bind fun r140=>((V5 F r67 r140).bind fun r152=>(some r152))) ((((y2 (σ:=(List Int)×Int) (τ:=(List Int)) (fun (s178:(List Int)×Int)=>(cond (decide (s178.2<(r9.2.1.Docs.length:Int))) ((v8 r9.2.1.Docs s178.2).bind fun x199=>((N5 F r9.1 r9.2.1 r9.2.2 x199.Id).bind fun r217=>(cond (decide (0<r217)) ((v8 r9.2.1.Docs s178.2).bind fun x231=>((O2 8 s178.1 ([x231.Id]:List Int)).bind fun x256=>(some (.inl (x256,(z8 (s178.2+1))))))) (some (.inl (s178.1,(z8 (s178.2+1)))))))) (some (.inr s178.1)))) F ([],0)).bind fun r179=>(some r179)):Option (List Int)).bind fun o167=>((V5 F r67 o167).bind fun r275=>(cond r275 ((I4 F r9.1 r9.2.1 (q7.mk 1 [] [] 0 0 [])).bind fun r285=>((a16 F r9.2.1).bind fun r297=>((V5 F r285 r297).bind fun r309=>(some r309)))) (some false)))))))))
end Go.Fk
