import Derived.Test.YtpdfkjjmcnhakaaGreatDoorCoreAL
/-
  How the models' loops run: a step's law gives the loop's law. Of no program.
-/
namespace Go.Fk
open Go
theorem whileM_run {σ τ:Type}{f:σ→Option (σ⊕τ)}{Post:τ→Prop}(Inv:Nat→σ→Prop)(n:Nat)
  (step: ∀i s,i<n→Inv i s→(∃s',f s=some (.inl s')∧Inv (i+1) s')∨(∃t,f s=some (.inr t)∧Post t))
  (fin: ∀s,Inv n s→∃t,f s=some (.inr t)∧Post t): ∀(k i:Nat) (s:σ) (F:Nat),i+k=n→k<F→Inv i s→∃t,whileM f F s=some t∧Post t
 | 0,i,s,F,e,hF,hi=>by
  obtain⟨F,rfl⟩: ∃G,F=G+1:=⟨F-1,by omega⟩
  obtain⟨t,h1,h2⟩:=fin s (by rw [←e];exact hi)
  exact⟨t,by rw [whileM,h1];rfl,h2⟩
 | k+1,i,s,F,e,hF,hi=>by
  obtain⟨F,rfl⟩: ∃G,F=G+1:=⟨F-1,by omega⟩
  rcases step i s (by omega) hi with ⟨s',h1,h2⟩ | ⟨t,h1,h2⟩
  ·obtain⟨t,h3,h4⟩:=whileM_run Inv n step fin k (i+1) s' F (by omega) (by omega) h2
   exact⟨t,by rw [whileM,h1];exact h3,h4⟩
  ·exact⟨t,by rw [whileM,h1];rfl,h2⟩
theorem getI_at {α:Type}{xs:List α}{i:Nat}(h:i<xs.length):getI xs (i:Int)=some xs[i]:=by
 unfold getI
 rw [if_pos (by omega)]
 exact List.getElem?_eq_getElem (by omega)
theorem w64_pred {i:Nat}(h0:0<i)(h:i<9000000000000000000):w64 ((i:Int)-1)=((i-1:Nat):Int):=by rw [w64_of ⟨by omega,by omega⟩];omega
theorem clean_while' {n:Nat}{τ:Type}{f:Int→Option (Int⊕(Unit⊕τ))}(h: ∀i:Nat,i<n→f (i:Int)=some (.inl ((i+1:Nat):Int)))
  (h0:f (n:Int)=some (.inr (.inl ()))): ∀k i F,i+k=n→k<F→whileM f F (i:Int)=some (.inl ())
 | 0,i,F,e,hF=>by
  obtain⟨F,rfl⟩: ∃G,F=G+1:=⟨F-1,by omega⟩
  rw [whileM,show i=n by omega,h0];rfl
 | k+1,i,F,e,hF=>by
  obtain⟨F,rfl⟩: ∃G,F=G+1:=⟨F-1,by omega⟩
  rw [whileM,h i (by omega)]
  exact clean_while' h h0 k (i+1) F (by omega) (by omega)
theorem clean0' {n:Nat}{τ:Type}{f:Int→Option (Int⊕(Unit⊕τ))}(F:Nat)(hF:n<F)(h: ∀i:Nat,i<n→f (i:Int)=some (.inl ((i+1:Nat):Int)))
  (h0:f (n:Int)=some (.inr (.inl ()))):whileM f F (0:Int)=some (.inl ()):=clean_while' h h0 n 0 F (by omega) hF
end Go.Fk
namespace Go.Fk
open Go
theorem getI_nat' {α:Type}(xs:List α)(i:Nat):getI xs (i:Int)=xs[i]? :=by simp [getI]
theorem w64_succ' {i:Nat}(h:i<9223372036854775807):w64 ((i:Int)+1)=((i+1:Nat):Int):=by rw [w64_of ⟨by omega,by omega⟩];rfl
theorem all_from {α:Type}{p:α→Bool}{xs:List α}{f:Nat→Unit→Option (Unit⊕Bool)}(h: ∀i x,xs[i]? =some x→f i ()=some (if p x then .inl () else .inr false)):
  ∀k i,i+k=xs.length→forFrom f k i ()=some (if (xs.drop i).all p then .inl () else .inr false)
 | 0,i,e=>by rw [List.drop_eq_nil_of_le (by omega)];rfl
 | k+1,i,e=>by
  have hi:i<xs.length:=by omega
  rw [forFrom,h i xs[i] (List.getElem?_eq_getElem hi),List.drop_eq_getElem_cons hi,List.all_cons]
  cases hp:p xs[i]
  ·rfl
  ·simp only [Bool.true_and]
   exact all_from h k (i+1) (by omega)
theorem all_while {α:Type}{p:α→Bool}{xs:List α}{f:Int→Option (Int⊕(Unit⊕Bool))}(h: ∀(i:Nat) x,xs[i]? =some x→f (i:Int)=some (if p x then .inl ((i+1:Nat):Int) else .inr (.inr false)))
  (h0:f (xs.length:Int)=some (.inr (.inl ()))): ∀k i F,i+k=xs.length→k<F→whileM f F (i:Int)=some (if (xs.drop i).all p then .inl () else .inr false)
 | 0,i,F,e,hF=>by
  obtain⟨F,rfl⟩: ∃G,F=G+1:=⟨F-1,by omega⟩
  rw [whileM,show i=xs.length by omega,h0,List.drop_eq_nil_of_le (by omega)];rfl
 | k+1,i,F,e,hF=>by
  obtain⟨F,rfl⟩: ∃G,F=G+1:=⟨F-1,by omega⟩
  have hi:i<xs.length:=by omega
  rw [whileM,h i xs[i] (List.getElem?_eq_getElem hi),List.drop_eq_getElem_cons hi,List.all_cons]
  cases hp:p xs[i]
  ·rfl
  ·simp only [Bool.true_and]
   exact all_while h h0 k (i+1) F (by omega) (by omega)
end Go.Fk
