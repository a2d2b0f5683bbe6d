/-
  The laws' own models. Printed by gen.py.
-/
import Derived.Test.YtepcfgnicnibnaaGreatDoorModel
set_option linter.unusedVariables false
namespace Go.Fk
open Go
def a28 (F:Nat)(q0:List UInt8):Option Bool:=(cond (decide (1048576<(q0.length:Int))) (some true) ((T8 F q0).bind fun r9=>((a1C F r9.1 r9.2.1 r9.2.2.1 r9.2.2.2).bind fun r67=>((a1E F r9.1 r9.2.1 r9.2.2.1 r9.2.2.2).bind fun r79=>(((cond (!((r67.length:Int)==(r79.length:Int))) (some true) ((V8 F r9.1 r9.2.1).bind fun r104=>(cond (!r104) (some true) (some (decide (r9.2.2.2<1)))))):Option Bool).bind fun o91=>(cond o91 (some ((r67.length:Int)==(r79.length:Int))) ((((v8 (σ:=(List B0)×Int) (τ:=((List B0))⊕(Bool)) (fun (s143:(List B0)×Int)=>(cond (decide (s143.2<(r67.length:Int))) ((((u0 r67 s143.2).bind fun x171=>((u0 r79 s143.2).bind fun x184=>((O3 F x171 x184).bind fun r197=>(cond (!r197) (some true) ((u0 r67 s143.2).bind fun x210=>(cond ((x210.length:Int)==0) (some true) (cond (decide (s143.2<(A1 ((r67.length:Int)-1)))) ((u0 r67 s143.2).bind fun x231=>(cond (!((x231.length:Int)==r9.2.2.2)) (some true) ((u0 r67 s143.2).bind fun x250=>(some (decide (r9.2.2.2<(x250.length:Int))))))) ((u0 r67 s143.2).bind fun x267=>(some (decide (r9.2.2.2<(x267.length:Int)))))))))))):Option Bool).bind fun o164=>(cond o164 (some (.inr (.inr false))) ((u0 r67 s143.2).bind fun x288=>((J5 16 s143.1 x288).bind fun x302=>(some (.inl (x302,(A1 (s143.2+1))))))))) (some (.inr (.inl s143.1))))) F ([],0)).bind fun r144=>(r144.elim (fun t317=>(some (.inl t317))) (fun t318=>(some (.inr t318))))):Option (((List B0))⊕(Bool))).bind fun o131=>o131.elim (fun s134=>((a02 F r9.1 r9.2.1 r9.2.2.1 16).bind fun r319=>((O3 F s134 r319).bind fun r331=>(some r331)))) (fun t340=>(some t340)))))))))
end Go.Fk
