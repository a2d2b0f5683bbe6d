/-
  Loops that look for the first element of a kind. Of no program.
-/
import Derived.Test.YtpdfkjjmcnhakaaGreatDoorLawKeep
namespace Go.Fk
open Go
theorem if_bif {α:Type}(b:Bool)(x y:α):(if b=true then x else y)=bif b then x else y:=by cases b<;>rfl
theorem find_from_at {α σ τ:Type}{xs:List α}{p:α→Bool}{g:α→τ}{s:σ}{f:Nat→σ→Option (σ⊕τ)}(h: ∀i x,xs[i]? =some x→f i s=some (if p x then .inr (g x) else .inl s)):
  ∀k i,i+k=xs.length→forFrom f k i s=some (((xs.drop i).find? p).elim (.inl s) fun x=>.inr (g x))
 | 0,i,e=>by rw [forFrom,List.drop_of_length_le (by omega)];rfl
 | k+1,i,e=>by
  have hi:i<xs.length:=by omega
  rw [forFrom,h i xs[i] (List.getElem?_eq_getElem hi),List.drop_eq_getElem_cons hi,List.find?_cons]
  cases hp:p xs[i]
  ·rw [Option.bind_some];exact find_from_at h k (i+1) (by omega)
  ·rfl
theorem find_from {α σ τ:Type}{xs:List α}(p:α→Bool)(g:α→τ){s:σ}{f:Nat→σ→Option (σ⊕τ)}(h: ∀i x,xs[i]? =some x→f i s=some (if p x then .inr (g x) else .inl s)):
  forFrom f xs.length 0 s=some ((xs.find? p).elim (.inl s) fun x=>.inr (g x)):=find_from_at h xs.length 0 (by omega)
theorem find_while_at {α τ:Type}{xs:List α}{p:α→Bool}{g:α→τ}{e:τ}{f:Int→Option (Int⊕τ)}(h: ∀(i:Nat) x,xs[i]? =some x→f (i:Int)=some (if p x then .inr (g x) else .inl ((i+1:Nat):Int)))(h0:f (xs.length:Int)=some (.inr e)):
  ∀k i F,i+k=xs.length→k<F→whileM f F (i:Int)=some (((xs.drop i).find? p).elim e g)
 | 0,i,F,he,hF=>by
  obtain⟨F,rfl⟩: ∃G,F=G+1:=⟨F-1,by omega⟩
  rw [whileM,show i=xs.length by omega,h0,List.drop_of_length_le (Nat.le_refl _)];rfl
 | k+1,i,F,he,hF=>by
  obtain⟨F,rfl⟩: ∃G,F=G+1:=⟨F-1,by omega⟩
  have hi:i<xs.length:=by omega
  rw [whileM,h i xs[i] (List.getElem?_eq_getElem hi),List.drop_eq_getElem_cons hi,List.find?_cons]
  cases hp:p xs[i]
  ·rw [Option.bind_some];exact find_while_at h h0 k (i+1) F (by omega) (by omega)
  ·rfl
theorem find_while {α τ:Type}{xs:List α}(p:α→Bool)(g:α→τ){e:τ}{f:Int→Option (Int⊕τ)}(F:Nat)(hF:xs.length<F)(h: ∀(i:Nat) x,xs[i]? =some x→f (i:Int)=some (if p x then .inr (g x) else .inl ((i+1:Nat):Int)))(h0:f (xs.length:Int)=some (.inr e)):
  whileM f F (0:Int)=some ((xs.find? p).elim e g):=find_while_at h h0 xs.length 0 F (by omega) hF
theorem all_while0 {α:Type}(p:α→Bool){xs:List α}{f:Int→Option (Int⊕(Unit⊕Bool))}(F:Nat)(hF:xs.length<F)(h: ∀(i:Nat) x,xs[i]? =some x→f (i:Int)=some (if p x then .inl ((i+1:Nat):Int) else .inr (.inr false)))
  (h0:f (xs.length:Int)=some (.inr (.inl ()))):whileM f F (0:Int)=some (if xs.all p then .inl () else .inr false):=by
 have:=all_while (p:=p) h h0 xs.length 0 F (by omega) hF
 rwa [List.drop_zero] at this
theorem idx_from_at {α σ:Type}{xs:List α}{p:α→Bool}{s:σ}{f:Nat→σ→Option (σ⊕Int)}(h: ∀i x,xs[i]? =some x→f i s=some (if p x then .inr (i:Int) else .inl s)):
  ∀k i,i+k=xs.length→forFrom f k i s=some (((xs.drop i).findIdx? p).elim (.inl s) fun j=>.inr ((i+j:Nat):Int))
 | 0,i,e=>by rw [forFrom,List.drop_of_length_le (by omega)];rfl
 | k+1,i,e=>by
  have hi:i<xs.length:=by omega
  rw [forFrom,h i xs[i] (List.getElem?_eq_getElem hi),List.drop_eq_getElem_cons hi,List.findIdx?_cons]
  cases hp:p xs[i]
  ·rw [Option.bind_some]
   show forFrom f k (i+1) s=_
   rw [idx_from_at h k (i+1) (by omega)]
   cases (xs.drop (i+1)).findIdx? p with
   | none=>rfl
   | some j=>simp;omega
  ·simp
theorem idx_from {α σ:Type}{xs:List α}(p:α→Bool){s:σ}{f:Nat→σ→Option (σ⊕Int)}(h: ∀i x,xs[i]? =some x→f i s=some (if p x then .inr (i:Int) else .inl s)):
  forFrom f xs.length 0 s=some ((xs.findIdx? p).elim (.inl s) fun j=>.inr (j:Int)):=by
 rw [idx_from_at h xs.length 0 (by omega),List.drop_zero]
 cases xs.findIdx? p<;>simp
theorem idx_ge {α:Type}(p:α→Bool)(xs:List α):(decide ((0:Int)≤((xs.findIdx? p).elim (-1:Int) fun j=>(j:Int))))=xs.any p:=by
 induction xs with
 | nil=>rfl
 | cons x r ih=>
  rw [List.findIdx?_cons,List.any_cons]
  cases hp:p x
  ·simp only [Bool.false_or,←ih]
   cases r.findIdx? p with
   | none=>rfl
   | some j=>simp;omega
  ·simp
end Go.Fk
