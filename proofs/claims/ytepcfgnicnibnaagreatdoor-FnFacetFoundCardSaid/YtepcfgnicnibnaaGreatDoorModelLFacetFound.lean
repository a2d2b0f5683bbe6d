/-
  The laws' own models. Printed by gen.py.
-/
import Derived.Test.YtepcfgnicnibnaaGreatDoorModel
set_option linter.unusedVariables false
namespace Go.Fk
open Go
def a0C (F:Nat)(q0:List UInt8):Option Bool:=(cond (decide (1048576<(q0.length:Int))) (some true) ((Y0 F q0).bind fun r9=>((Q8 F r9.1 r9.2.1 r9.2.2).bind fun r67=>((((a0J F r9.1 r9.2.1 r9.2.2).bind fun r86=>((a1D F r67 r86).bind fun r98=>(cond (!r98) (some true) ((V8 F r9.1 r9.2.1).bind fun r112=>(some (!r112)))))):Option Bool).bind fun o79=>(cond o79 ((a0J F r9.1 r9.2.1 r9.2.2).bind fun r126=>((a1D F r67 r126).bind fun r138=>(some r138))) ((a1Y F r9.2.1.Docs r67 [114,97,116,101]).bind fun r147=>((((v8 (σ:=Int×Int) (τ:=(Int)⊕(Bool)) (fun (s168:Int×Int)=>(cond (decide (s168.2<(r147.length:Int))) ((u0 r147 s168.2).bind fun x186=>((u0 r147 s168.2).bind fun x197=>((u0 r147 s168.2).bind fun x216=>((Q8 F r9.1 r9.2.1 (r5.mk 6 [114,97,116,101] [] x186.Num x197.Num [])).bind fun r227=>((a2J F r67 r227).bind fun r239=>(cond (!((r239.length:Int)==x216.Many)) (some (.inr (.inr false))) ((u0 r147 s168.2).bind fun x255=>(some (.inl ((A1 (s168.1+x255.Many)),(A1 (s168.2+1)))))))))))) (some (.inr (.inl s168.1))))) F (0,0)).bind fun r169=>(r169.elim (fun t269=>(some (.inl t269))) (fun t270=>(some (.inr t270))))):Option ((Int)⊕(Bool))).bind fun o159=>o159.elim (fun s162=>(some (decide (s162≤(r67.length:Int))))) (fun t271=>(some t271)))))))))
end Go.Fk
