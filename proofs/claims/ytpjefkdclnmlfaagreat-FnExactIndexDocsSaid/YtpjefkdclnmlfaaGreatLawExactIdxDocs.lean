/-
  The program's IndexDocs is the reference's, for all indexes, and neither keeps nor hands back what is the caller's. Of no program.
-/
import Derived.Test.YtpjefkdclnmlfaaGreatLawWz
import Derived.Test.YtpjefkdclnmlfaaGreatLawMarks
import Derived.Test.YtpjefkdclnmlfaaGreatLawExactIdxOk
set_option linter.unusedVariables false
namespace Go.Fk
open Go
def idxDocs (x:GIndex):List GDoc:=if indexS x then sortD (allS x.Segs) else []
theorem index_parts {x:GIndex}(h:indexS x=true):confS x.Conf=true∧x.Segs.length≤5∧(∀l∈x.Segs,liveS x.Conf l=true)∧docsS (sortD (allS x.Segs))=true:=by
 unfold indexS at h
 simp only [Bool.and_eq_true,decide_eq_true_eq,List.all_eq_true] at h
 exact⟨h.1.1,by omega,h.2.1,h.2.2⟩
theorem clone_docs (F:Nat)(ds:List GDoc)(hl:ds.length≤1000000)(hd: ∀d∈ds,d.Fields.length≤1000000∧d.Nums.length≤1000000):M.impl_cloneDocs F ds=some ds:=by
 unfold M.impl_cloneDocs
 have e:(ds.flatMap fun d=>[d])=ds:=by
  clear hl hd
  induction ds with
  | nil=>rfl
  | cons d r ih=>rw [List.flatMap_cons,ih];rfl
 rw [fm_forE (xs:=ds) (fun d=>[d]) 2000000 (fun i x acc hx hB=>?_) [] (by rw [List.nil_append,e];omega),List.nil_append,e]
 ·rfl
 ·have h:=hd x (List.mem_of_getElem? hx)
  rw [getI_nat',hx,Option.bind_some,impl_clone F x h.1 h.2,Option.bind_some,catLok (by rw [List.length_append] at hB;omega)];rfl
theorem live_fit {c:GConf}{l:GLive}(h:liveS c l=true):l.Seg.Docs.length≤16∧l.Dead.length≤60∧∀d∈l.Seg.Docs,DocFit d:=by
 have hd:=(live_docs h).1
 unfold liveS at h
 simp only [Bool.and_eq_true] at h
 have hu:=h.1.2
 unfold upIS at hu
 rw [Bool.and_eq_true,decide_eq_true_iff] at hu
 exact⟨(docs_ids hd).1,by omega,fun d hm=>doc_fit ((docs_all hd).2 d hm)⟩
theorem impl_idxDocs (F:Nat)(x:GIndex)(hc:x.Conf.Stops.length≤2000000)(hd: ∀l∈x.Segs,l.Seg.Docs.length≤1048576∧l.Dead.length≤1048576)(hF:1000<F):M.impl_IndexDocs F x=some (idxDocs x):=by
 unfold M.impl_IndexDocs idxDocs
 rw [impl_indexOk F x hc hd hF,Option.bind_some]
 cases ho:indexS x with
 | false=>rfl
 | true=>
  obtain⟨_,h5,hl,hs⟩:=index_parts ho
  have hlen:=all_le fun l hm=>(live_fit (hl l hm)).1
  rw [Bool.not_true,cond_false,impl_all F x.Segs (fun l hm=>by have:=(live_fit (hl l hm)).1;omega) (by omega),Option.bind_some,show (allS x.Segs).mergeSort byId=sortD (allS x.Segs) from rfl,
   clone_docs F _ (by rw [sortD_len];omega) (fun d hm=>?_)]
  ·rfl
  ·have:=doc_fit ((docs_all hs).2 d hm)
   exact⟨by have:=this.fields;omega,by have:=this.nums;omega⟩
theorem spec_idxDocs (F:Nat)(x:GIndex)(hx:IndexBig x)(hF:5000000<F):M.spec_IndexDocs F x=some (idxDocs x):=by
 have h2:=spec_18Ok F x hx hF
 unfold M.spec_IndexDocs idxDocs
 rw [h2,Option.bind_some]
 cases ho:indexS x with
 | false=>rfl
 | true=>
  obtain⟨_,h5,hl,hs⟩:=index_parts ho
  rw [Bool.not_true,cond_false,spec_docs18 F x (by omega) (fun l hm=>?_) (by omega),Option.bind_some,ins_sort hs]
  ·rfl
  ·have:=live_fit (hl l hm)
   exact⟨by omega,by omega,fun d hd=>by have:=this.2.2 d hd;exact⟨by have:=this.fields;omega,by have:=this.nums;omega⟩⟩
theorem law_exactIndexDocs (x:GIndex)(hx:IndexLen x): ∃F,M.laws_FnExactIndexDocs F x=some true:=by
 refine⟨10000000,?_⟩
 generalize hF:10000000=F
 unfold M.laws_FnExactIndexDocs
 obtain⟨r,hr,h1⟩:=szIndex F x 1048576 (by omega) (by omega) (by omega) hx
 obtain⟨r',hr',h2⟩:=swIndex F x 1048576 (by omega) (by omega) (by omega) hx
 rw [hr] at hr'
 cases hr'
 rw [hr,Option.bind_some]
 by_cases hn:r<0
 ·rw [decide_eq_true hn];rfl
 obtain⟨hle,hb⟩:=h1 (by omega)
 have hw:=h2 (by omega)
 have ht:=toIndex F x (by omega) hb
 have hi:=impl_idxDocs F x (by have:=hb.1.1.1;omega) (fun l hl=>⟨(hb.2.2 l hl).1.1.1,(hb.2.2 l hl).2⟩) (by omega)
 have hsp:=spec_idxDocs F x hb (by omega)
 have hxb:(idxDocs x).length≤1048576∧∀d∈idxDocs x,DocBig 1048576 d:=by
  unfold idxDocs
  cases ho:indexS x with
  | false=>exact⟨Nat.zero_le _,fun d hd=>by cases hd⟩
  | true=>
   obtain⟨_,h5,hl,hs⟩:=index_parts ho
   have:=(docs_ids hs).1
   exact⟨by rw [if_pos rfl];omega,fun d hd=>by
    rw [if_pos rfl] at hd
    obtain⟨l,hm,hd⟩:=List.mem_flatMap.1 ((sortD_perm _).mem_iff.1 hd)
    exact(hb.2.2 l hm).1.1.2 d (alive_sub l d hd)⟩
 generalize idxDocs x=xs at *
 have heq:=eqDocs F xs (by omega) hxb
 obtain⟨m,hm,hml⟩:=mkConf F x.Conf 1 (by omega) hb.1 (by omega)
 obtain⟨m',hm',_⟩:=mwLives F x.Segs m (by omega) hb.2 (by omega)
 have hmi:M.laws_markIndex F x 1=some (m':Int):=by
  unfold M.laws_markIndex
  rw [show M.laws_markConf F x.Conf 1=some (m:Int) from hm,Option.bind_some,hm'];rfl
 obtain⟨k,hk,_⟩:=docs_end F xs 1 hxb (by omega)
 have hmk:M.laws_markDocS F xs 1=some (k:Int):=(mEqDocs F xs 1 (by omega) hxb (by omega)).trans (congrArg some hk)
 have hhd:M.laws_heldDocS F (mkRow (stepGDoc F) (1:Int) xs).1 1=some (k:Int):=(heldDocs F xs 1 (by omega) hxb (by omega)).trans (congrArg some hk)
 rw [decide_eq_false hn,cond_false,ht,Option.bind_some,hsp,Option.bind_some,Option.bind_some,hi,Option.bind_some,heq,Option.bind_some,Bool.not_true,cond_false,Option.bind_some,eqIndex F x (by omega) hb,Option.bind_some,Bool.not_true,cond_false,hmi,Option.bind_some,decide_eq_false (by omega),cond_false,Option.bind_some,Bool.not_true,Option.bind_some,cond_false,hmk,Option.bind_some,hhd,Option.bind_some,decide_eq_false (by omega),cond_false,beq_self_eq_true,Bool.not_true,cond_false,Option.bind_some,hi,Option.bind_some,heq,Option.bind_some,Bool.not_true,cond_false,Option.bind_some,decide_eq_false (by omega),cond_false,beq_self_eq_true]
 rfl
end Go.Fk
