/-
  Words that are near. The law, on the models.
-/
import Derived.Test.YtnloenhmkdpgeaaGreatDoorLawTermS
set_option linter.unusedVariables false
namespace Go.Fk
open Go
theorem b55 (F:Nat)(c:u6)(s:A5)(n:r4)(ho:G9 c s=true)(hd:s.Docs.length≤1000000)(hc:c.Stops.length≤2000000)(hF:1000000000<F):a12 F c s n=some (a1D s n):=by
 unfold a12
 rw [a1T F c s (by omega) hc (by omega),a8,ho,l7,i6,show a3h F s n=some (a1D s n) from a8l F c s n (a2D ho).1];rfl
theorem b71 (F:Nat)(r:z7)(hr:b6l r 900000): ∃s p,a1r F r=some (s,⟨r.b_,p⟩)∧b2n r p 1∧D0 s=true:=by
 obtain⟨h1,h2,h3⟩:=hr
 unfold a1r
 obtain⟨s,hs,e⟩:=a8q F r [[99,97,116],[99,97,116,115],[99,97,114],[99,97,114,116],[100,111,103],[116,97,112],[116,111,112,115],[97,98,99,100,101,102,103,104,105,106,107,108],[97],[97,99,97,116]] ⟨h1,h2,by omega⟩ (by simp)
 rw [e,a8]
 exact⟨s,_,rfl,⟨by omega,by omega⟩,(by decide : ∀s∈([[99,97,116],[99,97,116,115],[99,97,114],[99,97,114,116],[100,111,103],[116,97,112],[116,111,112,115],[97,98,99,100,101,102,103,104,105,106,107,108],[97],[97,99,97,116]]:List r4),D0 s=true) s hs⟩
end Go.Fk
