import Derived.Test.YtpjefkdclnmlfaaGreatLawIdxs
import Derived.Test.YtpjefkdclnmlfaaGreatLawBase
import Derived.Test.YtpjefkdclnmlfaaGreatLawWD
import Derived.Test.YtpjefkdclnmlfaaGreatLawIxs
import Derived.Test.YtpjefkdclnmlfaaGreatLawDrs
/-
  The documents of an index: the program's and the reference's. Of no program.
-/
set_option linter.unusedVariables false
namespace Go.Fk
open Go
def idxDocs (x:GIndex):List GDoc:=if indexS x then sortD (allS x.Segs) else []
theorem index_parts {x:GIndex}(h:indexS x=true):confS x.Conf=true∧x.Segs.length≤5∧(∀l∈x.Segs,liveS x.Conf l=true)∧docsS (sortD (allS x.Segs))=true:=by
 unfold indexS at h
 simp only [Bool.and_eq_true,decide_eq_true_eq,List.all_eq_true] at h
 exact⟨h.1.1,by omega,h.2.1,h.2.2⟩
theorem clone_docs (F:Nat)(ds:List GDoc)(hl:ds.length≤1000000)(hd: ∀d∈ds,d.Fields.length≤1000000∧d.Nums.length≤1000000):M.impl_cloneDocs F ds=some ds:=by
 unfold M.impl_cloneDocs
 have e:(ds.flatMap fun d=>[d])=ds:=by
  clear hl hd
  induction ds with
  | nil=>rfl
  | cons d r ih=>rw [List.flatMap_cons,ih];rfl
 rw [fm_forE (xs:=ds) (fun d=>[d]) 2000000 (fun i x acc hx hB=>?_) [] (by rw [List.nil_append,e];omega),List.nil_append,e]
 ·rfl
 ·have h:=hd x (List.mem_of_getElem? hx)
  rw [getI_nat',hx,Option.bind_some,impl_clone F x h.1 h.2,Option.bind_some,catLok (by rw [List.length_append] at hB;omega)];rfl
theorem live_fit {c:GConf}{l:GLive}(h:liveS c l=true):l.Seg.Docs.length≤16∧l.Dead.length≤60∧∀d∈l.Seg.Docs,DocFit d:=by
 have hd:=(live_docs h).1
 unfold liveS at h
 simp only [Bool.and_eq_true] at h
 have hu:=h.1.2
 unfold upIS at hu
 rw [Bool.and_eq_true,decide_eq_true_iff] at hu
 exact⟨(docs_ids hd).1,by omega,fun d hm=>doc_fit ((docs_all hd).2 d hm)⟩
theorem impl_idxDocs (F:Nat)(x:GIndex)(hc:x.Conf.Stops.length≤2000000)(hd: ∀l∈x.Segs,l.Seg.Docs.length≤1048576∧l.Dead.length≤1048576)(hF:1000<F):M.impl_IndexDocs F x=some (idxDocs x):=by
 unfold M.impl_IndexDocs idxDocs
 rw [impl_indexOk F x hc hd hF,Option.bind_some]
 cases ho:indexS x with
 | false=>rfl
 | true=>
  obtain⟨_,h5,hl,hs⟩:=index_parts ho
  have hlen:=all_le fun l hm=>(live_fit (hl l hm)).1
  rw [Bool.not_true,cond_false,impl_all F x.Segs (fun l hm=>by have:=(live_fit (hl l hm)).1;omega) (by omega),Option.bind_some,show (allS x.Segs).mergeSort byId=sortD (allS x.Segs) from rfl,
   clone_docs F _ (by rw [sortD_len];omega) (fun d hm=>?_)]
  ·rfl
  ·have:=doc_fit ((docs_all hs).2 d hm)
   exact⟨by have:=this.fields;omega,by have:=this.nums;omega⟩
end Go.Fk
set_option linter.unusedVariables false
namespace Go.Fk
open Go
end Go.Fk
set_option linter.unusedVariables false
namespace Go.Fk
open Go
theorem idxDocs_ok {x:GIndex}(h:indexS x=true):docsS (idxDocs x)=true:=by
 unfold idxDocs
 rw [if_pos h];exact(index_sort h).2
theorem idxDocs_fit (x:GIndex):DocsFit (idxDocs x):=by
 cases h:indexS x with
 | true=>exact docs_fit (idxDocs_ok h)
 | false=>unfold idxDocs;rw [h];exact⟨Nat.zero_le _,fun d hd=>by cases hd⟩
theorem IdxN.impl_docs {x:GIndex}(F:Nat)(h:IdxN 6 62 x)(hF:1000<F):M.impl_IndexDocs F x=some (idxDocs x):=
 impl_idxDocs F x (by have:=h.conf.stops.1;omega) (fun l hl=>⟨by have:=(h.live l hl).docs.few;omega,by have:=(h.live l hl).dead;omega⟩) hF
theorem IdxN.impl_ok {x:GIndex}(F:Nat)(h:IdxN 6 62 x)(hF:1000<F):M.impl_IndexOk F x=some (indexS x):=
 impl_indexOk F x (by have:=h.conf.stops.1;omega) (fun l hl=>⟨by have:=(h.live l hl).docs.few;omega,by have:=(h.live l hl).dead;omega⟩) hF
end Go.Fk
