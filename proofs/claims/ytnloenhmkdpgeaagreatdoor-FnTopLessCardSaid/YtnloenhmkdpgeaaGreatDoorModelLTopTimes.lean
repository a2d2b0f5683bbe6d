/-
  The laws' own models. Printed by gen.py.
-/
import Derived.Test.YtnloenhmkdpgeaaGreatDoorModel
set_option linter.unusedVariables false
namespace Go.Fk
open Go
def a2y (F:Nat)(q0:List UInt8):Option Bool:=(cond (decide (1048576<(q0.length:Int))) (some true) ((P5 F q0).bind fun r9=>((R3 F r9.1 r9.2.1 r9.2.2.1 r9.2.2.2).bind fun r67=>((((R5 F r9.1 r9.2.1 r9.2.2.1 r9.2.2.2).bind fun r98=>((M5 F r67 r98).bind fun r110=>(cond (!r110) (some true) ((H8 F r9.1 r9.2.1).bind fun r124=>(cond (!r124) (some true) ((N4 F (q7.mk 10 [] [] 3 0 ([r9.2.2.1]:List q7))).bind fun r138=>(some (!r138)))))))):Option Bool).bind fun o91=>(cond o91 ((R5 F r9.1 r9.2.1 r9.2.2.1 r9.2.2.2).bind fun r152=>((M5 F r67 r152).bind fun r164=>(some r164))) ((R3 F r9.1 r9.2.1 (q7.mk 10 [] [] 3 0 ([r9.2.2.1]:List q7)) r9.2.2.2).bind fun r173=>((((y2 (σ:=Int) (τ:=(Unit)⊕(Bool)) (fun (s193:Int)=>(cond (decide (s193<(r67.length:Int))) (((cond (decide ((r173.length:Int)≤s193)) (some true) ((v8 r173 s193).bind fun x221=>((v8 r67 s193).bind fun x232=>(cond (!(x221.Doc==x232.Doc)) (some true) ((v8 r173 s193).bind fun x249=>((v8 r67 s193).bind fun x260=>(some (!(x249.Points==(z8 (3*x260.Points))))))))))):Option Bool).bind fun o208=>(cond o208 (some (.inr (.inr false))) (some (.inl (z8 (s193+1)))))) (some (.inr (.inl ()))))) F 0).bind fun r194=>(r194.elim (fun t279=>(some (.inl ()))) (fun t280=>(some (.inr t280))))):Option ((Unit)⊕(Bool))).bind fun o185=>o185.elim (fun s188=>(some ((r173.length:Int)==(r67.length:Int)))) (fun t281=>(some t281)))))))))
end Go.Fk
