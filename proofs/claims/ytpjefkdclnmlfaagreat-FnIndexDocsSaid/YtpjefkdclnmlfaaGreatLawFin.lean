import Derived.Test.YtpjefkdclnmlfaaGreatLawIdxs
import Derived.Test.YtpjefkdclnmlfaaGreatLawBase
import Derived.Test.YtpjefkdclnmlfaaGreatLawWD
/-
  The documents of an index: the program's and the reference's. Of no program.
-/
set_option linter.unusedVariables false
namespace Go.Fk
open Go
def idxDocs (x:GIndex):List GDoc:=if indexS x then sortD (allS x.Segs) else []
theorem index_parts {x:GIndex}(h:indexS x=true):confS x.Conf=true∧x.Segs.length≤5∧(∀l∈x.Segs,liveS x.Conf l=true)∧docsS (sortD (allS x.Segs))=true:=by
 unfold indexS at h
 simp only [Bool.and_eq_true,decide_eq_true_eq,List.all_eq_true] at h
 exact⟨h.1.1,by omega,h.2.1,h.2.2⟩
theorem clone_docs (F:Nat)(ds:List GDoc)(hl:ds.length≤1000000)(hd: ∀d∈ds,d.Fields.length≤1000000∧d.Nums.length≤1000000):M.impl_cloneDocs F ds=some ds:=by
 unfold M.impl_cloneDocs
 have e:(ds.flatMap fun d=>[d])=ds:=by
  clear hl hd
  induction ds with
  | nil=>rfl
  | cons d r ih=>rw [List.flatMap_cons,ih];rfl
 rw [fm_forE (xs:=ds) (fun d=>[d]) 2000000 (fun i x acc hx hB=>?_) [] (by rw [List.nil_append,e];omega),List.nil_append,e]
 ·rfl
 ·have h:=hd x (List.mem_of_getElem? hx)
  rw [getI_nat',hx,Option.bind_some,impl_clone F x h.1 h.2,Option.bind_some,catLok (by rw [List.length_append] at hB;omega)];rfl
theorem live_fit {c:GConf}{l:GLive}(h:liveS c l=true):l.Seg.Docs.length≤16∧l.Dead.length≤60∧∀d∈l.Seg.Docs,DocFit d:=by
 have hd:=(live_docs h).1
 unfold liveS at h
 simp only [Bool.and_eq_true] at h
 have hu:=h.1.2
 unfold upIS at hu
 rw [Bool.and_eq_true,decide_eq_true_iff] at hu
 exact⟨(docs_ids hd).1,by omega,fun d hm=>doc_fit ((docs_all hd).2 d hm)⟩
theorem impl_idxDocs (F:Nat)(x:GIndex)(hc:x.Conf.Stops.length≤2000000)(hd: ∀l∈x.Segs,l.Seg.Docs.length≤1048576∧l.Dead.length≤1048576)(hF:1000<F):M.impl_IndexDocs F x=some (idxDocs x):=by
 unfold M.impl_IndexDocs idxDocs
 rw [impl_indexOk F x hc hd hF,Option.bind_some]
 cases ho:indexS x with
 | false=>rfl
 | true=>
  obtain⟨_,h5,hl,hs⟩:=index_parts ho
  have hlen:=all_le fun l hm=>(live_fit (hl l hm)).1
  rw [Bool.not_true,cond_false,impl_all F x.Segs (fun l hm=>by have:=(live_fit (hl l hm)).1;omega) (by omega),Option.bind_some,show (allS x.Segs).mergeSort byId=sortD (allS x.Segs) from rfl,
   clone_docs F _ (by rw [sortD_len];omega) (fun d hm=>?_)]
  ·rfl
  ·have:=doc_fit ((docs_all hs).2 d hm)
   exact⟨by have:=this.fields;omega,by have:=this.nums;omega⟩
theorem spec_idxDocsD (F:Nat)(x:GIndex)(hx:IndexMid x)(hF:5000000<F):M.spec_IndexDocs F x=some (idxDocs x):=by
 have h2:=spec_18OkD F x hx hF
 unfold M.spec_IndexDocs idxDocs
 rw [h2,Option.bind_some]
 cases ho:indexS x with
 | false=>rfl
 | true=>
  obtain⟨_,h5,hl,hs⟩:=index_parts ho
  rw [Bool.not_true,cond_false,spec_docs18 F x (by omega) (fun l hm=>?_) (by omega),Option.bind_some,ins_sort hs]
  ·rfl
  ·have:=live_fit (hl l hm)
   exact⟨by omega,by omega,fun d hd=>by have:=this.2.2 d hd;exact⟨by have:=this.fields;omega,by have:=this.nums;omega⟩⟩
end Go.Fk
set_option linter.unusedVariables false
namespace Go.Fk
open Go
theorem find_okI (F:Nat)(ds:List GDoc)(d:GDoc)(hm:d∈ds)(hp:ds.Pairwise fun a b=>a.Id<b.Id)(hl:ds.length≤1000)(hF:2000<F):M.laws_foFind F ds d.Id=some d:=by
 obtain⟨k,hk,hkd⟩:=List.mem_iff_getElem.1 hm
 unfold M.laws_foFind
 obtain⟨t,ht,hpo⟩:=whileM_run (σ:=Int×GDoc) (τ:=GDoc⊕GDoc) (f:=fun (s27:Int×GDoc)=>(cond (decide (s27.1<(ds.length:Int))) (Option.bind (getI ds s27.1) fun x50=>(cond (x50.Id==d.Id) (Option.bind (getI ds s27.1) fun x70=>(some (.inr (.inr x70)))) (some (.inl ((w64 (s27.1+(1:Int))),s27.2))))) (some (.inr (.inl s27.2)))))
  (Post:=fun t=>t= .inr d) (fun i s=>s.1=(i:Int)∧i≤k) ds.length (fun i s hi hs=>by
  obtain⟨s1,s2⟩:=s
  obtain⟨e,hik⟩:=hs
  simp only at e
  subst e
  dsimp only
  rw [decide_eq_true (by omega),cond_true,getI_at hi,Option.bind_some,Option.bind_some,w64_succ' (by omega)]
  rcases Nat.lt_or_ge i k with h | h
  ·have:=List.pairwise_iff_getElem.1 hp i k hi hk h
   rw [hkd] at this
   rw [beq_eq_false_iff_ne.2 (by omega),cond_false]
   exact .inl ⟨_,rfl,rfl,by omega⟩
  ·obtain rfl:i=k:=by omega
   rw [hkd,beq_self_eq_true,cond_true]
   exact .inr ⟨_,rfl,rfl⟩) (fun s hs=>by
  obtain⟨s1,s2⟩:=s
  obtain⟨_,h⟩:=hs
  omega) ds.length 0 ((0:Int),(GDoc.mk (0:Int) ([]:List GField) ([]:List GAttr))) F (by omega) (by omega) ⟨rfl,by omega⟩
 rw [ht,hpo];rfl
theorem fo_inI (F:Nat)(l:List Int)(n:Int)(hl:l.length≤10000)(hF:20000<F):M.laws_foIn F l n=some (l.any (· ==n)):=by
 unfold M.laws_foIn
 rw [find_while (xs:=l) (fun p=>p==n) (fun p=>(.inr true:Unit⊕Bool)) (e:=.inl ()) F (by omega) (fun i x hx=>?_) ?_]
 ·cases hf:l.find? (fun p=>p==n) with
  | none=>
   have:l.any (· ==n)=false:=by
    rw [List.any_eq_false]
    exact fun x hx=>by simpa using List.find?_eq_none.1 hf x hx
   rw [this];rfl
  | some x=>
   have:l.any (· ==n)=true:=List.any_eq_true.2 ⟨x,List.mem_of_find?_eq_some hf,List.find?_some (p:=fun p:Int=>p==n) hf⟩
   rw [this];rfl
 ·rw [decide_eq_false (by omega)];rfl
 ·have hi:=(List.getElem?_eq_some_iff.1 hx).1
  rw [decide_eq_true (by omega),cond_true,getI_nat',hx,Option.bind_some,w64_succ' (by omega)]
  cases x==n<;>rfl
end Go.Fk
