/-
  What two shards count by kind is counted of all: the law holds for every code.
-/
import Derived.Test.YtepcfgnicnibnaaGreatDoorLawFacet
set_option linter.unusedVariables false
set_option maxRecDepth 100000
namespace Go.Fk
open Go
theorem c2e {α:Type}{ok:α→Bool}{lt:α→α→Bool}{xs:List α}(h1: ∀x∈xs,ok x=true)(h2:xs.Pairwise fun a b=>lt a b=true):a1U ok lt xs=true:=by
 unfold a1U
 rw [List.all_eq_true]
 intro q hq
 obtain⟨i,hi⟩:=List.mem_iff_getElem?.1 hq
 obtain⟨hx,rfl⟩:=b7U hi
 have hlt:=(i4.1 hx).1
 unfold a91
 rw [h1 _ (l7 hx),q8]
 by_cases h0:q.2=0
 ·rw [b8 h0];rfl
 ·rw [c6 h0,Bool.false_or,j4 (show q.2-1<xs.length by omega),Option.elim_some]
  have e:xs[q.2]=q.1:=(i4.1 hx).2
  rw [←e]
  exact List.pairwise_iff_getElem.1 h2 _ _ _ _ (by omega)
theorem b7v (ns:List Int):a2E (b1C (a3I ns)) ns:=by
 obtain⟨h1,h2⟩:=b1c ns
 have h3:=a7x ns
 refine⟨?_,fun p=>by rw [h2,h3.2]⟩
 refine List.Pairwise.imp_of_mem (fun {a b} ha hb h e=>?_) h1
 have ha:=(h3.2 a).1 ((h2 a).1 ha)
 have hb:=(h3.2 b).1 ((h2 b).1 hb)
 have:a=b:=Prod.ext e (by rw [ha.2,hb.2,e])
 rw [this,b9i] at h;cases h
end Go.Fk
