/-
  Loops over a list that look for a fault. Of no program.
-/
import Derived.Test.YtepcfgnicnibnaaLawLoop
namespace Go.Fk
open Go
theorem getI_nat' {α:Type}(xs:List α)(i:Nat):getI xs (i:Int)=xs[i]? :=by simp [getI]
theorem w64_succ' {i:Nat}(h:i<9223372036854775807):w64 ((i:Int)+1)=((i+1:Nat):Int):=by rw [w64_of ⟨by omega,by omega⟩];rfl
theorem all_from {α:Type}{p:α→Bool}{xs:List α}{f:Nat→Unit→Option (Unit⊕Bool)}(h: ∀i x,xs[i]? =some x→f i ()=some (if p x then .inl () else .inr false)):
  ∀k i,i+k=xs.length→forFrom f k i ()=some (if (xs.drop i).all p then .inl () else .inr false)
 | 0,i,e=>by rw [List.drop_eq_nil_of_le (by omega)];rfl
 | k+1,i,e=>by
  have hi:i<xs.length:=by omega
  rw [forFrom,h i xs[i] (List.getElem?_eq_getElem hi),List.drop_eq_getElem_cons hi,List.all_cons]
  cases hp:p xs[i]
  ·rfl
  ·simp only [Bool.true_and]
   exact all_from h k (i+1) (by omega)
theorem all_while {α:Type}{p:α→Bool}{xs:List α}{f:Int→Option (Int⊕(Unit⊕Bool))}(h: ∀(i:Nat) x,xs[i]? =some x→f (i:Int)=some (if p x then .inl ((i+1:Nat):Int) else .inr (.inr false)))
  (h0:f (xs.length:Int)=some (.inr (.inl ()))): ∀k i F,i+k=xs.length→k<F→whileM f F (i:Int)=some (if (xs.drop i).all p then .inl () else .inr false)
 | 0,i,F,e,hF=>by
  obtain⟨F,rfl⟩: ∃G,F=G+1:=⟨F-1,by omega⟩
  rw [whileM,show i=xs.length by omega,h0,List.drop_eq_nil_of_le (by omega)];rfl
 | k+1,i,F,e,hF=>by
  obtain⟨F,rfl⟩: ∃G,F=G+1:=⟨F-1,by omega⟩
  have hi:i<xs.length:=by omega
  rw [whileM,h i xs[i] (List.getElem?_eq_getElem hi),List.drop_eq_getElem_cons hi,List.all_cons]
  cases hp:p xs[i]
  ·rfl
  ·simp only [Bool.true_and]
   exact all_while h h0 k (i+1) F (by omega) (by omega)
end Go.Fk
