/-
  How the models' loops run: a step's law gives the loop's law. Of no program.
-/
import Derived.Test.YtepcfgnicnibnaaCoreK
namespace Go.Fk
open Go
theorem getI_at {α:Type}{xs:List α}{i:Nat}(h:i<xs.length):getI xs (i:Int)=some xs[i]:=by
 unfold getI
 rw [if_pos (by omega)]
 exact List.getElem?_eq_getElem (by omega)
theorem w64_pred {i:Nat}(h0:0<i)(h:i<9000000000000000000):w64 ((i:Int)-1)=((i-1:Nat):Int):=by rw [w64_of ⟨by omega,by omega⟩];omega
theorem clean_while' {n:Nat}{τ:Type}{f:Int→Option (Int⊕(Unit⊕τ))}(h: ∀i:Nat,i<n→f (i:Int)=some (.inl ((i+1:Nat):Int)))
  (h0:f (n:Int)=some (.inr (.inl ()))): ∀k i F,i+k=n→k<F→whileM f F (i:Int)=some (.inl ())
 | 0,i,F,e,hF=>by
  obtain⟨F,rfl⟩: ∃G,F=G+1:=⟨F-1,by omega⟩
  rw [whileM,show i=n by omega,h0];rfl
 | k+1,i,F,e,hF=>by
  obtain⟨F,rfl⟩: ∃G,F=G+1:=⟨F-1,by omega⟩
  rw [whileM,h i (by omega)]
  exact clean_while' h h0 k (i+1) F (by omega) (by omega)
theorem clean0' {n:Nat}{τ:Type}{f:Int→Option (Int⊕(Unit⊕τ))}(F:Nat)(hF:n<F)(h: ∀i:Nat,i<n→f (i:Int)=some (.inl ((i+1:Nat):Int)))
  (h0:f (n:Int)=some (.inr (.inl ()))):whileM f F (0:Int)=some (.inl ()):=clean_while' h h0 n 0 F (by omega) hF
end Go.Fk
