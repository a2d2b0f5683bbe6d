/-
  The laws' own models. Printed by gen.py.
-/
import Derived.Test.YtepcfgnicnibnaaGreatDoorModel
set_option linter.unusedVariables false
namespace Go.Fk
open Go
def a1O (F:Nat)(q0:List UInt8):Option Bool:=(cond (decide (1048576<(q0.length:Int))) (some true) ((T8 F q0).bind fun r9=>((a1C F r9.1 r9.2.1 r9.2.2.1 r9.2.2.2).bind fun r67=>((a1E F r9.1 r9.2.1 r9.2.2.1 r9.2.2.2).bind fun r79=>(((cond (!((r67.length:Int)==(r79.length:Int))) (some true) ((V8 F r9.1 r9.2.1).bind fun r104=>(cond (!r104) (some true) (some (decide (r9.2.2.2<1)))))):Option Bool).bind fun o91=>(cond o91 (some ((r67.length:Int)==(r79.length:Int))) ((((v8 (σ:=Int) (τ:=(Unit)⊕(Bool)) (fun (s133:Int)=>(cond (decide (s133<(r67.length:Int))) ((u0 r67 s133).bind fun x149=>((u0 r67 s133).bind fun x162=>((u0 x149 (A1 ((x162.length:Int)-1))).bind fun x175=>((a0e F r9.1 r9.2.1 r9.2.2.1 r9.2.2.2 x175).bind fun r186=>(((cond (decide ((A1 (s133+1))<(r67.length:Int))) ((u0 r67 (A1 (s133+1))).bind fun x207=>((O3 F r186 x207).bind fun r220=>(cond (!r220) (some true) (cond ((A1 (s133+1))==(r67.length:Int)) (some (decide (0<(r186.length:Int)))) (some false))))) (cond ((A1 (s133+1))==(r67.length:Int)) (some (decide (0<(r186.length:Int)))) (some false))):Option Bool).bind fun o198=>(cond o198 (some (.inr (.inr false))) (some (.inl (A1 (s133+1)))))))))) (some (.inr (.inl ()))))) F 0).bind fun r134=>(r134.elim (fun t244=>(some (.inl ()))) (fun t245=>(some (.inr t245))))):Option ((Unit)⊕(Bool))).bind fun o125=>o125.elim (fun s128=>(cond ((r67.length:Int)==0) (some true) ((u0 r67 0).bind fun x251=>((a02 F r9.1 r9.2.1 r9.2.2.1 r9.2.2.2).bind fun r264=>((O3 F r264 x251).bind fun r276=>(some r276)))))) (fun t285=>(some t285)))))))))
end Go.Fk
