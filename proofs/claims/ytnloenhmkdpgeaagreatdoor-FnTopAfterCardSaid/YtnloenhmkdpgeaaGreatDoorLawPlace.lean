/-
  A phrase of two words that follow each other: what it is worth. The law, on the models.
-/
import Derived.Test.YtnloenhmkdpgeaaGreatDoorLawScoreX
import Derived.Test.YtnloenhmkdpgeaaGreatDoorLawSegP
set_option linter.unusedVariables false
namespace Go.Fk
open Go
theorem c0A {α:Type}{ok:α→Bool}{lt:α→α→Bool}{xs:List α}(h1: ∀x∈xs,ok x=true)(h2:xs.Pairwise fun a b=>lt a b=true):a3x ok lt xs=true:=by
 unfold a3x
 rw [List.all_eq_true]
 rintro⟨x,i⟩ hq
 obtain⟨j,hj⟩:=List.mem_iff_getElem?.1 hq
 obtain⟨k1,k2⟩:=b4w hj
 simp only at k1 k2
 subst k2
 obtain⟨hi,he⟩:=i4.1 k1
 unfold b0R
 simp only
 rw [h1 x (n5 k1),u5]
 rcases Nat.eq_zero_or_pos i with rfl | hp
 ·rfl
 ·have hl:i-1<xs.length:=by omega
  rw [j8 hl]
  have:=List.pairwise_iff_getElem.1 h2 (i-1) i hl hi (by omega)
  rw [he] at this
  simp [this]
theorem c4b (F:Nat)(l:List Int)(n:Int)(hl:l.length≤10000)(hF:20000<F):a1H F l n=some (l.any (· ==n)):=by
 unfold a1H
 rw [a0u (xs:=l) (fun p=>p==n) (fun p=>(.inr true:Unit⊕Bool)) (e:=.inl ()) F (by omega) (fun i x hx=>?_) ?_]
 ·cases hf:l.find? (fun p=>p==n) with
  | none=>
   have:l.any (· ==n)=false:=by
    rw [List.any_eq_false]
    exact fun x hx=>by simpa using List.find?_eq_none.1 hf x hx
   rw [this];rfl
  | some x=>
   have:l.any (· ==n)=true:=List.any_eq_true.2 ⟨x,List.mem_of_find?_eq_some hf,List.find?_some (p:=fun p:Int=>p==n) hf⟩
   rw [this];rfl
 ·rw [c6 (by omega)];rfl
 ·have hi:=(i4.1 hx).1
  rw [b8 (by omega),j4,n8,hx,a8,y5 (by omega)]
  cases x==n<;>rfl
end Go.Fk
