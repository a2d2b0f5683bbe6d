/-
  A phrase of two words that follow each other: what it is worth. The law, on the models.
-/
import Derived.Test.YtpdfkjjmcnhakaaGreatDoorLawScoreX
import Derived.Test.YtpdfkjjmcnhakaaGreatDoorLawSegP
set_option linter.unusedVariables false
namespace Go.Fk
open Go
def W8:List l3:=[[99,97,116],[100,111,103],[114,117,110],[110,121],[110,101,119],[102,111,120],[122,122],[108,97,114,103]]
theorem b8k: ∀a∈W8,A1 a=true∧P4 a=a∧2≤a.length∧a.length≤4:=by decide +kernel
theorem b7z {b:UInt8}{r:l3}(hb:M9 b=true):0<((b::r).takeWhile M9).length:=by rw [List.takeWhile_cons,if_pos hb];simp
theorem b4n (F:Nat)(r:y2)(hr:b4e r 900000): ∃s p,V7 F r=some (s,⟨r.b_,p⟩)∧b0b r p 1∧A1 s=true:=by
 obtain⟨h1,h2,h3⟩:=hr
 unfold V7
 obtain⟨s,hs,e⟩:=b3H F r [[98,111,100,121],[98,111,100,121],[116,105,116,108,101],[110,111,110,101]] ⟨h1,h2,by omega⟩ (by simp)
 rw [e,a8]
 exact⟨s,_,rfl,⟨by omega,by omega⟩,(by decide : ∀s∈([[98,111,100,121],[98,111,100,121],[116,105,116,108,101],[110,111,110,101]]:List l3),A1 s=true) s hs⟩
theorem a9k (F:Nat)(code:List UInt8)(hF:200000<F): ∃c s n t,M4 F code=some (c,s,n,t)∧a2D 100 c∧X5 s.Docs∧A1 n=true∧t∈W8:=by
 unfold M4
 obtain⟨r,hr,h1,h2⟩:=b7s F code
 rw [hr,a8]
 obtain⟨c,s,p,hs,⟨p0,p1⟩,hcd,hsf,_⟩:=b4g F r ⟨h1,by omega,by omega⟩ hF
 rw [hs,a8]
 dsimp only
 obtain⟨n,q,hn,⟨q0,q1⟩,hw⟩:=b4n F ⟨r.b_,p⟩ ⟨h1,by simp only;omega,by simp only;omega⟩
 simp only at q0 q1
 rw [hn,a8]
 dsimp only
 obtain⟨t,h8,ht⟩:=b3H F ⟨r.b_,q⟩ [[99,97,116],[100,111,103],[114,117,110],[110,121],[110,101,119],[102,111,120],[122,122],[108,97,114,103]] ⟨h1,by simp only;omega,by simp only;omega⟩ (by simp)
 rw [ht,a8]
 exact⟨_,_,_,_,rfl,hcd.fit,hsf,hw,h8⟩
theorem b9V (F:Nat)(l:List Int)(n:Int)(hl:l.length≤10000)(hF:20000<F):a1M F l n=some (l.any (· ==n)):=by
 unfold a1M
 rw [a3D (xs:=l) (fun p=>p==n) (fun p=>(.inr true:Unit⊕Bool)) (e:=.inl ()) F (by omega) (fun i x hx=>?_) ?_]
 ·cases hf:l.find? (fun p=>p==n) with
  | none=>
   have:l.any (· ==n)=false:=by
    rw [List.any_eq_false]
    exact fun x hx=>by simpa using List.find?_eq_none.1 hf x hx
   rw [this];rfl
  | some x=>
   have:l.any (· ==n)=true:=List.any_eq_true.2 ⟨x,List.mem_of_find?_eq_some hf,List.find?_some (p:=fun p:Int=>p==n) hf⟩
   rw [this];rfl
 ·rw [c6 (by omega)];rfl
 ·have hi:=(g8.1 hx).1
  rw [b8 (by omega),j6,l8,hx,a8,u4 (by omega)]
  cases x==n<;>rfl
theorem a2p {α:Type}{o:Option α}{m:α}(h: ∃t,o=some t∧t=m):o=some m:=by
 obtain⟨t,h1,h2⟩:=h
 rw [h1,h2]
end Go.Fk
