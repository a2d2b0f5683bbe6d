/-
  The laws' own models. Printed by gen.py.
-/
import Derived.Test.YtepcfgnicnibnaaGreatDoorModel
set_option linter.unusedVariables false
namespace Go.Fk
open Go
def a1P (F:Nat)(q0:List UInt8):Option Bool:=(cond (decide (1048576<(q0.length:Int))) (some true) ((V0 F q0).bind fun r9=>((a1l F r9.1 r9.2.1 r9.2.2.1 r9.2.2.2.1 r9.2.2.2.2.1 r9.2.2.2.2.2).bind fun r70=>((((a0g F r9.1 r9.2.1 r9.2.2.1 r9.2.2.2.1 r9.2.2.2.2.1 r9.2.2.2.2.2).bind fun r89=>((O3 F r70 r89).bind fun r101=>(cond (!r101) (some true) ((V8 F r9.1 r9.2.1).bind fun r115=>(cond (!r115) (some true) (cond (decide (r9.2.2.2.2.1<0)) (some true) (cond (decide (r9.2.2.2.1≤r9.2.2.2.2.1)) (some true) (some (decide (r9.2.2.2.2.2<1)))))))))):Option Bool).bind fun o82=>(cond o82 ((a0g F r9.1 r9.2.1 r9.2.2.1 r9.2.2.2.1 r9.2.2.2.2.1 r9.2.2.2.2.2).bind fun r147=>((O3 F r70 r147).bind fun r159=>(some r159))) ((a02 F r9.1 r9.2.1 r9.2.2.1 16).bind fun r168=>((((v8 (σ:=(List B0)×Int) (τ:=(List B0)) (fun (s197:(List B0)×Int)=>(((cond (decide (s197.2<(r168.length:Int))) (some (decide ((s197.1.length:Int)<r9.2.2.2.2.2))) (some false)):Option Bool).bind fun o214=>(cond o214 ((u0 r168 s197.2).bind fun x225=>((a42 x225.Doc r9.2.2.2.1).bind fun x236=>(cond (x236==r9.2.2.2.2.1) ((u0 r168 s197.2).bind fun x241=>((J5 16 s197.1 ([x241]:List B0)).bind fun x259=>(some (.inl (x259,(A1 (s197.2+1))))))) (some (.inl (s197.1,(A1 (s197.2+1)))))))) (some (.inr s197.1))))) F ([],0)).bind fun r198=>(some r198)):Option (List B0)).bind fun o186=>((O3 F r70 o186).bind fun r272=>(some r272)))))))))
end Go.Fk
