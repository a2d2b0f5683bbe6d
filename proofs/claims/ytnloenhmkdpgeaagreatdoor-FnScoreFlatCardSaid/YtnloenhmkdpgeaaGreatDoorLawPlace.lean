/-
  A phrase of two words that follow each other: what it is worth. The law, on the models.
-/
import Derived.Test.YtnloenhmkdpgeaaGreatDoorLawScoreX
import Derived.Test.YtnloenhmkdpgeaaGreatDoorLawSegP
set_option linter.unusedVariables false
namespace Go.Fk
open Go
def W8:List r4:=[[99,97,116],[100,111,103],[114,117,110],[110,121],[110,101,119],[102,111,120],[122,122],[108,97,114,103]]
theorem b91 (F:Nat)(r:z7)(hr:b6l r 900000): ∃s p,a2a F r=some (s,⟨r.b_,p⟩)∧b2n r p 1∧D0 s=true:=by
 obtain⟨h1,h2,h3⟩:=hr
 unfold a2a
 obtain⟨s,hs,e⟩:=a8q F r [[98,111,100,121],[98,111,100,121],[116,105,116,108,101],[110,111,110,101]] ⟨h1,h2,by omega⟩ (by simp)
 rw [e,a8]
 exact⟨s,_,rfl,⟨by omega,by omega⟩,(by decide : ∀s∈([[98,111,100,121],[98,111,100,121],[116,105,116,108,101],[110,111,110,101]]:List r4),D0 s=true) s hs⟩
theorem a49 (F:Nat)(code:List UInt8)(hF:200000<F): ∃c s n t,O1 F code=some (c,s,n,t)∧a1K 100 c∧X3 s.Docs∧D0 n=true∧t∈W8:=by
 unfold O1
 obtain⟨r,hr,h1,h2⟩:=b0Q F code
 rw [hr,a8]
 obtain⟨c,s,p,hs,⟨p0,p1⟩,hcd,hsf,_⟩:=a8Y F r ⟨h1,by omega,by omega⟩ hF
 rw [hs,a8]
 dsimp only
 obtain⟨n,q,hn,⟨q0,q1⟩,hw⟩:=b91 F ⟨r.b_,p⟩ ⟨h1,by simp only;omega,by simp only;omega⟩
 simp only at q0 q1
 rw [hn,a8]
 dsimp only
 obtain⟨t,h8,ht⟩:=a8q F ⟨r.b_,q⟩ [[99,97,116],[100,111,103],[114,117,110],[110,121],[110,101,119],[102,111,120],[122,122],[108,97,114,103]] ⟨h1,by simp only;omega,by simp only;omega⟩ (by simp)
 rw [ht,a8]
 exact⟨_,_,_,_,rfl,hcd.fit,hsf,hw,h8⟩
theorem c4J (F:Nat)(s:A5)(n t:r4)(id:Int)(hp:(G3 s n t).length≤10000)(hF:20000<F):a5m F (G3 s n t) id=some (atS s n t id):=by
 unfold a5m atS
 rw [a0u (xs:=G3 s n t) (fun p=>p.Doc==id) (fun p=>(.inr p.At:Unit⊕List Int)) (e:=.inl ()) F (by omega) (fun i x hx=>?_) ?_]
 ·cases (G3 s n t).find? (fun p=>p.Doc==id)<;>rfl
 ·rw [c6 (by omega)];rfl
 ·have hi:=(i4.1 hx).1
  rw [b8 (by omega),j4,n8,hx,a8,a8,y5 (by omega)]
  cases x.Doc==id<;>rfl
theorem a86 {c:u6}{s:A5}{q:q7}(hq:a3D q)(ho:G9 c s=true){x:A1}(hx:x∈s.Docs):L7 c s 1 q x.Id=b0y c s q x:=by
 unfold L7
 rw [if_pos ho,a5V ho hx]
 show C2 c s 1 q x=_
 rw [C2,if_pos (a85 hq)]
end Go.Fk
