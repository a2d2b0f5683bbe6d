/-
  Loops that gather what each element gives. Of no program.
-/
import Derived.Test.YtpdfkjjmcnhakaaGreatDoorLawFind
namespace Go.Fk
open Go
theorem fm_forE_at {α β:Type}{xs:List α}{g:α→List β}{B:Nat}{f:Nat→List β→Option (List β)}(h: ∀i x acc,xs[i]? =some x→(acc++g x).length≤B→f i acc=some (acc++g x)):
  ∀k i acc,i+k=xs.length→(acc++(xs.drop i).flatMap g).length≤B→forE f k i acc=some (acc++(xs.drop i).flatMap g)
 | 0,i,acc,e,hB=>by rw [forE,List.drop_of_length_le (by omega)];simp
 | k+1,i,acc,e,hB=>by
  have hi:i<xs.length:=by omega
  rw [List.drop_eq_getElem_cons hi,List.flatMap_cons,←List.append_assoc] at hB ⊢
  rw [forE,h i xs[i] acc (List.getElem?_eq_getElem hi) (by rw [List.length_append] at hB;omega),Option.bind_some]
  exact fm_forE_at h k (i+1) _ (by omega) hB
theorem fm_forE {α β:Type}{xs:List α}(g:α→List β)(B:Nat){f:Nat→List β→Option (List β)}(h: ∀i x acc,xs[i]? =some x→(acc++g x).length≤B→f i acc=some (acc++g x))(acc:List β)(hB:(acc++xs.flatMap g).length≤B):
  forE f xs.length 0 acc=some (acc++xs.flatMap g):=by
 have:=fm_forE_at h xs.length 0 acc (by omega) (by rwa [List.drop_zero])
 rwa [List.drop_zero] at this
theorem fm_while_at {α β:Type}{xs:List α}{g:α→List β}{B:Nat}{f:List β×Int→Option ((List β×Int)⊕List β)}(h: ∀(i:Nat) x acc,xs[i]? =some x→(acc++g x).length≤B→f (acc,(i:Int))=some (.inl (acc++g x,((i+1:Nat):Int))))
  (h0: ∀acc,f (acc,(xs.length:Int))=some (.inr acc)): ∀k i acc F,i+k=xs.length→k<F→(acc++(xs.drop i).flatMap g).length≤B→whileM f F (acc,(i:Int))=some (acc++(xs.drop i).flatMap g)
 | 0,i,acc,F,e,hF,hB=>by
  obtain⟨F,rfl⟩: ∃G,F=G+1:=⟨F-1,by omega⟩
  rw [whileM,show i=xs.length by omega,h0,List.drop_of_length_le (Nat.le_refl _)];simp
 | k+1,i,acc,F,e,hF,hB=>by
  obtain⟨F,rfl⟩: ∃G,F=G+1:=⟨F-1,by omega⟩
  have hi:i<xs.length:=by omega
  rw [List.drop_eq_getElem_cons hi,List.flatMap_cons,←List.append_assoc] at hB ⊢
  rw [whileM,h i xs[i] acc (List.getElem?_eq_getElem hi) (by rw [List.length_append] at hB;omega),Option.bind_some]
  exact fm_while_at h h0 k (i+1) _ F (by omega) (by omega) hB
theorem fm_while {α β:Type}{xs:List α}(g:α→List β)(B:Nat){f:List β×Int→Option ((List β×Int)⊕List β)}(F:Nat)(hF:xs.length<F)(h: ∀(i:Nat) x acc,xs[i]? =some x→(acc++g x).length≤B→f (acc,(i:Int))=some (.inl (acc++g x,((i+1:Nat):Int))))
  (h0: ∀acc,f (acc,(xs.length:Int))=some (.inr acc))(acc:List β)(hB:(acc++xs.flatMap g).length≤B):whileM f F (acc,(0:Int))=some (acc++xs.flatMap g):=by
 have:=fm_while_at h h0 xs.length 0 acc F (by omega) hF (by rwa [List.drop_zero])
 rwa [List.drop_zero] at this
theorem fold_forE_at {α σ:Type}{xs:List α}{g:σ→α→σ}{f:Nat→σ→Option σ}(h: ∀i x s,xs[i]? =some x→f i s=some (g s x)): ∀k i s,i+k=xs.length→forE f k i s=some ((xs.drop i).foldl g s)
 | 0,i,s,e=>by rw [forE,List.drop_of_length_le (by omega)];rfl
 | k+1,i,s,e=>by
  have hi:i<xs.length:=by omega
  rw [forE,h i xs[i] s (List.getElem?_eq_getElem hi),List.drop_eq_getElem_cons hi,Option.bind_some,List.foldl_cons]
  exact fold_forE_at h k (i+1) _ (by omega)
theorem fold_forE {α σ:Type}{xs:List α}(g:σ→α→σ){f:Nat→σ→Option σ}(h: ∀i x s,xs[i]? =some x→f i s=some (g s x))(s:σ):forE f xs.length 0 s=some (xs.foldl g s):=by
 have:=fold_forE_at h xs.length 0 s (by omega)
 rwa [List.drop_zero] at this
theorem flat_le {α β:Type}{g:α→List β}{m:Nat}: ∀(xs:List α),(∀x∈xs,(g x).length≤m)→(xs.flatMap g).length≤xs.length*m
 | [],_=>by simp
 | x::r,h=>by
  have h1:=h x (List.mem_cons_self ..)
  have h2:=flat_le r fun y hy=>h y (List.mem_cons_of_mem _ hy)
  rw [List.flatMap_cons,List.length_append,List.length_cons,Nat.add_mul];omega
end Go.Fk
