/-
  Documents in some order of their numbers: whether they are sound does not hang on which. Of no program.
-/
import Derived.Test.YtpdfkjjmcnhakaaGreatDoorLawDocs
import Derived.Test.YtpdfkjjmcnhakaaGreatDoorModel
set_option linter.unusedVariables false
namespace Go.Fk
open Go
theorem docsS_up {ds:List GDoc}(h:docsS ds=true):ds.Pairwise fun a b=>a.Id<b.Id:=(docs_ids h).2.2
theorem up_unique {xs ys:List GDoc}(hp:xs.Perm ys)(hx:xs.Pairwise fun a b=>a.Id≤b.Id)(hy:ys.Pairwise fun a b=>a.Id<b.Id):xs=ys:=by
 have hmem: ∀a∈ys,∀b∈ys,a.Id=b.Id→a=b:=fun a ha b hb e=>by
  obtain⟨i,hi,rfl⟩:=List.mem_iff_getElem.1 ha
  obtain⟨j,hj,rfl⟩:=List.mem_iff_getElem.1 hb
  rcases Nat.lt_trichotomy i j with h | h | h
  ·have:=List.pairwise_iff_getElem.1 hy i j hi hj h
   omega
  ·subst h;rfl
  ·have:=List.pairwise_iff_getElem.1 hy j i hj hi h
   omega
 refine List.Perm.eq_of_pairwise (le:=fun a b:GDoc=>a.Id≤b.Id) ?_ hx (hy.imp fun h=>by omega) hp
 intro a b ha hb h1 h2
 exact hmem a (hp.mem_iff.1 ha) b hb (by omega)
theorem docsS_any {xs ys:List GDoc}(hp:xs.Perm ys)(hx:xs.Pairwise fun a b=>a.Id≤b.Id)(hy:ys.Pairwise fun a b=>a.Id≤b.Id):docsS xs=docsS ys:=by
 cases h1:docsS xs with
 | true=>rw [←up_unique hp.symm hy (docsS_up h1)] at h1;exact h1.symm
 | false=>
  cases h2:docsS ys with
  | true=>rw [up_unique hp hx (docsS_up h2)] at h1;rw [h1] at h2;exact h2
  | false=>rfl
theorem byId_sorted (A:List GDoc):(A.mergeSort byId).Pairwise fun a b=>a.Id≤b.Id:=by
 have:=List.pairwise_mergeSort (le:=byId) (fun a b c h1 h2=>by unfold byId at *;simp only [decide_eq_true_eq] at *;omega) (fun a b=>by unfold byId;simp only [Bool.or_eq_true,decide_eq_true_eq];omega) A
 exact this.imp fun h=>by unfold byId at h;simpa using h
theorem docsT_any (F:Nat){A ys:List GDoc}(hl:A.length<9000000000000000000)(hp:ys.Perm A)(hy:ys.Pairwise fun a b=>a.Id≤b.Id):M.impl_DocsOk F ys=docsT F A:=by
 unfold docsT
 have h1:=hp.length_eq
 have h2:=List.length_mergeSort (le:=byId) A
 rw [impl_docs F ys (by omega),impl_docs F _ (by omega),docsS_any (hp.trans (List.mergeSort_perm A byId).symm) hy (byId_sorted A)]
theorem alive_cmp (F:Nat)(a b:GDoc):M.impl_allAlive_1 F a b=some (if a.Id<b.Id then -1 else if b.Id<a.Id then 1 else 0):=by
 unfold M.impl_allAlive_1 M.cmp_Compare_int M.cmp_isNaN_int
 simp only [beq_self_eq_true,Bool.not_true,Option.bind_some,cond_false]
 by_cases h:a.Id<b.Id
 ·rw [decide_eq_true h,if_pos h];rfl
 ·rw [decide_eq_false h,if_neg h,cond_false]
  by_cases h2:b.Id<a.Id
  ·rw [decide_eq_true h2,if_pos h2];rfl
  ·rw [decide_eq_false h2,if_neg h2];rfl
theorem alive_lt (F:Nat)(a b:GDoc):ltO (fun a b=>M.impl_allAlive_1 F a b) a b=decide (a.Id<b.Id):=by
 show decide ((M.impl_allAlive_1 F a b).getD 0<0)=_
 rw [alive_cmp]
 by_cases h:a.Id<b.Id
 ·rw [if_pos h,decide_eq_true h];rfl
 ·rw [if_neg h,decide_eq_false h]
  split<;>rfl
theorem alive_some (F:Nat)(xs:List GDoc): ∀x∈xs,∀y∈xs,((fun a b=>M.impl_allAlive_1 F a b) x y).isSome=true:=fun x _ y _=>by
 show (M.impl_allAlive_1 F x y).isSome=true
 rw [alive_cmp];rfl
theorem alive_irr (F:Nat)(xs:List GDoc): ∀x∈xs,(!ltO (fun a b=>M.impl_allAlive_1 F a b) x x)=true:=fun x _=>by rw [alive_lt];simp
theorem alive_tr (F:Nat)(xs:List GDoc): ∀x∈xs,∀y∈xs,∀z∈xs,(!(ltO (fun a b=>M.impl_allAlive_1 F a b) x y&&ltO (fun a b=>M.impl_allAlive_1 F a b) y z)||ltO (fun a b=>M.impl_allAlive_1 F a b) x z)=true:=fun x _ y _ z _=>by
 rw [alive_lt,alive_lt,alive_lt]
 by_cases h1:x.Id<y.Id<;>by_cases h2:y.Id<z.Id<;>simp [h1,h2]
 omega
theorem alive_ntr (F:Nat)(xs:List GDoc): ∀x∈xs,∀y∈xs,∀z∈xs,((ltO (fun a b=>M.impl_allAlive_1 F a b) x y||ltO (fun a b=>M.impl_allAlive_1 F a b) y z)|| !ltO (fun a b=>M.impl_allAlive_1 F a b) x z)=true:=fun x _ y _ z _=>by
 rw [alive_lt,alive_lt,alive_lt]
 by_cases h1:x.Id<y.Id<;>by_cases h2:y.Id<z.Id<;>simp [h1,h2]
 omega
theorem alive_up {F:Nat}{ys:List GDoc}(h:ys.Pairwise fun a b=>ltO (fun a b=>M.impl_allAlive_1 F a b) b a=false):ys.Pairwise fun a b=>a.Id≤b.Id:=h.imp fun {a b} h=>by
 rw [alive_lt] at h
 have:=of_decide_eq_false h
 omega
theorem forE_keep {σ:Type}{f:Nat→σ→Option σ}(P:σ→Prop)(h: ∀i s t,f i s=some t→P t): ∀(k i:Nat) (s t:σ),P s→forE f k i s=some t→P t
 | 0,i,s,t,hs,e=>by
  rw [forE] at e
  cases e;exact hs
 | k+1,i,s,t,hs,e=>by
  rw [forE] at e
  obtain⟨u,h1,h2⟩:=Option.bind_eq_some_iff.1 e
  exact forE_keep P h k (i+1) u t (h i s u h1) h2
theorem alive_bound {F:Nat}{q:List GLive}{A:List GDoc}(h:M.impl_allAlive F q=some A):A.length≤140737488355328:=by
 unfold M.impl_allAlive at h
 obtain⟨u,h1,h2⟩:=Option.bind_eq_some_iff.1 h
 obtain⟨v,h3,h4⟩:=Option.bind_eq_some_iff.1 h1
 cases h4;cases h2
 refine forE_keep (fun s:List GDoc=>s.length≤140737488355328) (fun i s t e=>?_) _ _ _ _ (by simp) h3
 obtain⟨x,_,e⟩:=Option.bind_eq_some_iff.1 e
 obtain⟨y,_,e⟩:=Option.bind_eq_some_iff.1 e
 obtain⟨z,e1,e⟩:=Option.bind_eq_some_iff.1 e
 cases e
 unfold catL at e1
 split at e1
 ·rename_i hc
  cases e1
  rw [List.length_append];omega
 ·cases e1
theorem alive_len {xs:List GDoc}(h:xs.length≤140737488355328):xs.length<4611686018427387904:=by omega
theorem alive_fit {xs:List GDoc}(h:xs.length≤140737488355328):xs.length<9000000000000000000:=by omega
end Go.Fk
