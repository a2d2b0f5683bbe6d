/-
  An index has just what is in its pieces, and is not gone: the law. Of no program.
-/
import Derived.Test.YtpjefkdclnmlfaaGreatLawIxs
import Derived.Test.YtpjefkdclnmlfaaGreatLawFin
import Derived.Test.YtpjefkdclnmlfaaGreatLawDrs
set_option linter.unusedVariables false
namespace Go.Fk
open Go
theorem idxDocs_ok {x:GIndex}(h:indexS x=true):docsS (idxDocs x)=true:=by
 unfold idxDocs
 rw [if_pos h];exact(index_sort h).2
theorem idxDocs_fit (x:GIndex):DocsFit (idxDocs x):=by
 cases h:indexS x with
 | true=>exact docs_fit (idxDocs_ok h)
 | false=>unfold idxDocs;rw [h];exact⟨Nat.zero_le _,fun d hd=>by cases hd⟩
theorem IdxN.impl_docs {x:GIndex}(F:Nat)(h:IdxN 6 62 x)(hF:1000<F):M.impl_IndexDocs F x=some (idxDocs x):=
 impl_idxDocs F x (by have:=h.conf.stops.1;omega) (fun l hl=>⟨by have:=(h.live l hl).docs.few;omega,by have:=(h.live l hl).dead;omega⟩) hF
theorem IdxN.impl_ok {x:GIndex}(F:Nat)(h:IdxN 6 62 x)(hF:1000<F):M.impl_IndexOk F x=some (indexS x):=
 impl_indexOk F x (by have:=h.conf.stops.1;omega) (fun l hl=>⟨by have:=(h.live l hl).docs.few;omega,by have:=(h.live l hl).dead;omega⟩) hF
theorem live_sum {c:GConf}{l:GLive}(h:liveS c l=true):(aliveS l).length+l.Dead.length=l.Seg.Docs.length∧l.Seg.Docs.length≤16∧l.Dead.length≤60:=by
 have hd:=live_docs h
 have hm:=live_m h
 unfold liveS at h
 simp only [Bool.and_eq_true] at h
 exact⟨alive_count hd.1 h.1.2 h.2.1,hd.2,hm.dead⟩
theorem sum_all: ∀(segs:List GLive) (n:Int),segs.foldl (fun n l=>n+((aliveS l).length:Int)) n=n+((allS segs).length:Int)
 | [],n=>by unfold allS;simp
 | l::r,n=>by
  rw [List.foldl_cons,sum_all r]
  unfold allS
  rw [List.flatMap_cons,List.length_append]
  omega
theorem law_indexDocs (code:List UInt8): ∃F,M.laws_FnIndexDocs F code=some true:=by
 refine⟨10000000,?_⟩
 generalize hF:10000000=F
 unfold M.laws_FnIndexDocs
 cases decide ((1048576:Int)<(code.length:Int))
 case true=>rfl
 obtain⟨x,hx,hn⟩:=drawIndexDocs_ok F code (by omega)
 have hi:=hn.impl_docs F (by omega)
 have hsp:=spec_idxDocsD F x (hn.mid (by omega) (by omega)) (by omega)
 have hfit:=idxDocs_fit x
 have hfo:=foDocs_same F (idxDocs x) hfit (by omega)
 rw [cond_false,hx,Option.bind_some,hi,Option.bind_some,hsp,Option.bind_some,hfo,Option.bind_some,Bool.not_true,cond_false,hn.impl_ok F (by omega),Option.bind_some,Option.bind_some]
 cases ho:indexS x with
 | false=>rw [Bool.not_false,cond_true,Option.bind_some,hfo];rfl
 | true=>
  have hds:=idxDocs_ok ho
  have hids:=docs_ids hds
  obtain⟨_,h5,hl,_⟩:=index_parts ho
  rw [Bool.not_true,cond_false]
  have key:=fold_while (xs:=x.Segs) (fun (n:Int) l=>n+((aliveS l).length:Int)) (fun i n=>0≤n∧n≤16*i) (fun n=>(.inl n:Int⊕Bool)) (fun (n:Int) (i:Int)=>(n,i)) (0:Int) (s0:=((0:Int),(0:Int))) rfl F (by omega) ⟨Int.le_refl _,by omega⟩
   (f:=fun (s116:Int×Int)=>(cond (decide (s116.2<(x.Segs.length:Int))) ((getI x.Segs s116.2).bind fun x131=>((getI x.Segs s116.2).bind fun x152=>((some (w64 ((w64 (s116.1+(x131.Seg.Docs.length:Int)))-(x152.Dead.length:Int)))).bind fun x173=>((((whileM (σ:=Int) (τ:=(Unit)⊕(Bool)) (fun (s189:Int)=>((getI x.Segs s116.2).bind fun x201=>(cond (decide (s189<(x201.Seg.Docs.length:Int))) ((getI x.Segs s116.2).bind fun x224=>((getI x224.Seg.Docs s189).bind fun x245=>((((getI x.Segs s116.2).bind fun x278=>((M.laws_foIn F x278.Dead x245.Id).bind fun r299=>(cond (!r299) ((M.laws_foFind F (idxDocs x) x245.Id).bind fun r309=>((M.laws_foDoc F r309 x245).bind fun r326=>(some (!r326)))) (some false)))):Option Bool).bind fun o269=>(cond o269 (some (.inr (.inr false))) (some (.inl (w64 (s189+1)))))))) (some (.inr (.inl ())))))) F 0).bind fun r190=>(r190.elim (fun t342=>(some (.inl ()))) (fun t343=>(some (.inr t343))))):Option ((Unit)⊕(Bool))).bind fun o181=>o181.elim (fun s184=>(some (.inl (x173,(w64 (s116.2+1)))))) (fun t344=>(some (.inr (.inr t344)))))))) (some (.inr (.inl s116.1)))))
   (fun i l n hxl hI=>by
    have hii:=(List.getElem?_eq_some_iff.1 hxl).1
    have hml:=List.mem_of_getElem? hxl
    have hlv:=hl l hml
    obtain⟨e1,e2,e3⟩:=live_sum hlv
    have hdf:=(live_m hlv).docs
    refine⟨?_,by omega,by omega⟩
    dsimp only
    have w1:w64 (n+(l.Seg.Docs.length:Int))=n+(l.Seg.Docs.length:Int):=w64_of ⟨by omega,by omega⟩
    have w2:w64 (n+(l.Seg.Docs.length:Int)-(l.Dead.length:Int))=n+((aliveS l).length:Int):=by rw [w64_of ⟨by omega,by omega⟩];omega
    rw [decide_eq_true (by omega),cond_true,getI_nat',hxl,Option.bind_some,Option.bind_some,w1,w2,Option.bind_some]
    rw [clean0' (n:=l.Seg.Docs.length) F (by omega) (fun k hk=>?_) ?_]
    ·simp only [Option.bind_some,Sum.elim_inl]
     rw [w64_succ' (by omega)]
    ·rw [Option.bind_some,decide_eq_false (by omega)];rfl
    ·have hd:l.Seg.Docs[k]∈l.Seg.Docs:=List.getElem_mem hk
     rw [Option.bind_some,decide_eq_true (by omega),cond_true,Option.bind_some,getI_at hk,Option.bind_some,Option.bind_some,fo_inI F l.Dead _ (by omega) (by omega),Option.bind_some,w64_succ' (by omega)]
     cases ha:l.Dead.any (· ==l.Seg.Docs[k].Id) with
     | true=>rfl
     | false=>
      have hal:l.Seg.Docs[k]∈aliveS l:=by
       unfold aliveS
       refine List.mem_filter.2 ⟨hd,?_⟩
       have:deadIn l l.Seg.Docs[k]=false:=by
        unfold deadIn
        rw [List.any_eq_false] at ha ⊢
        intro z hz hq
        exact ha z hz (beq_iff_eq.2 (beq_iff_eq.1 hq).symm)
       rw [this];rfl
      have hin:l.Seg.Docs[k]∈idxDocs x:=by
       unfold idxDocs
       rw [if_pos ho]
       exact(sortD_perm _).mem_iff.2 (List.mem_flatMap.2 ⟨l,hml,hal⟩)
      rw [Bool.not_false,cond_true,find_okI F (idxDocs x) _ hin hids.2.2 (by omega) (by omega),Option.bind_some,foDoc_same F _ (hdf.doc _ hd) (by omega)];rfl) (fun n hI=>by
    dsimp only
    rw [decide_eq_false (by omega)];rfl)
  rw [key.1,sum_all]
  have hlen:(idxDocs x).length=(allS x.Segs).length:=by unfold idxDocs;rw [if_pos ho,sortD_len]
  simp only [Option.bind_some,Sum.elim_inl]
  rw [impl_docs F (idxDocs x) (by have:=hids.1;omega),hds,Option.bind_some,cond_true,hlen,Int.zero_add,beq_self_eq_true]
end Go.Fk
