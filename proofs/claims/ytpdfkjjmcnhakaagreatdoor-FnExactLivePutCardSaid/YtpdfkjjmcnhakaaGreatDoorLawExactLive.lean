/-
  A piece as a text, for all of them. Of no program.
-/
import Derived.Test.YtpdfkjjmcnhakaaGreatDoorLawLivePut
import Derived.Test.YtpdfkjjmcnhakaaGreatDoorLawExs
set_option linter.unusedVariables false
namespace Go.Fk
open Go
structure LiveP (l:GLive):Prop where
 docs:l.Seg.Docs.length≤16∧∀d∈l.Seg.Docs,docS d=true
 dead:l.Dead.length≤60∧∀z∈l.Dead,0≤z∧z≤999999999
theorem live_p {c:GConf}{l:GLive}(h:indexS ⟨c,[l]⟩=true):LiveP l:=by
 unfold indexS at h
 simp only [Bool.and_eq_true,List.all_eq_true] at h
 have hl:=h.2.1 l (List.mem_singleton.2 rfl)
 have hd:=live_docs hl
 unfold liveS upIS at hl
 simp only [Bool.and_eq_true,decide_eq_true_eq] at hl
 refine⟨docs_all hd.1,by have:=hl.1.2.2;omega,fun z hz=>?_⟩
 have:=(pairS_ok hl.1.2.1).1 z hz
 unfold upIn at this
 simpa only [Bool.and_eq_true,decide_eq_true_eq] using this
theorem deadT_len {z:Int}(h:0≤z∧z≤999999999):(deadT z).length≤20:=by
 have:=(dec_small 21 h.1 h.2 (by omega)).2.2
 unfold deadT
 simp only [List.length_append,List.length_cons,List.length_nil];omega
theorem liveT_len {l:GLive}(h:LiveP l):(l.Seg.Docs.flatMap docT).length≤32000∧(l.Dead.flatMap deadT).length≤1200:=by
 have h1:=flat_le (g:=docT) (m:=2000) l.Seg.Docs fun d hd=>(docT_len (doc_p (h.docs.2 d hd))).1
 have h2:=flat_le (g:=deadT) (m:=20) l.Dead fun z hz=>deadT_len (h.dead.2 z hz)
 have h3:=h.docs.1
 have h4:=h.dead.1
 omega
theorem impl_livePut (F:Nat)(c:GConf)(l:GLive)(hc:ConfBig c)(hl:LiveBig l)(hF:5000000<F):M.impl_LivePut F c l=some (if indexS ⟨c,[l]⟩ then liveT l else []):=by
 unfold M.impl_LivePut
 rw [impl_indexOk F ⟨c,[l]⟩ (by have:=hc.1.1;show c.Stops.length≤_;omega) (fun x hx=>by cases List.mem_singleton.1 hx;exact⟨hl.1.1.1,hl.2⟩) (by omega),Option.bind_some]
 cases ho:indexS ⟨c,[l]⟩
 ·rfl
 have hp:=live_p ho
 have hle:=liveT_len hp
 rw [Bool.not_true,cond_false,fm_forE (xs:=l.Seg.Docs) docT 100000 (fun i d acc hx hB=>?_) [] (by rw [List.nil_append];omega),Option.bind_some,Option.bind_some,List.nil_append,fm_forE (xs:=l.Dead) deadT 100000 (fun i z acc hx hB=>?_) _ (by rw [List.length_append];omega)]
 ·rfl
 ·have hz:=hp.dead.2 z (List.mem_of_getElem? hx)
  have hn:=dec_small 21 hz.1 hz.2 (by omega)
  have hacc:acc.length≤100000:=by simp only [List.length_append] at hB;omega
  have e:deadT z=[100,101,97,100,32]++Lib.itoa z++[10]:=rfl
  rw [getI_nat',hx,Option.bind_some,hn.2.1,Option.bind_some,catSk (by simp only [List.length_cons,List.length_nil];omega),Option.bind_some,catSk (by simp only [List.length_append,List.length_cons,List.length_nil];omega),Option.bind_some,←e,catSk (by have:=deadT_len hz;omega),Option.bind_some]
 ·have hd:=hp.docs.2 d (List.mem_of_getElem? hx)
  have hacc:acc.length≤100000:=by simp only [List.length_append] at hB;omega
  rw [getI_nat',hx,Option.bind_some,impl_docPut F d hd,Option.bind_some,catSk (by have:=(docT_len (doc_p hd)).1;omega),Option.bind_some]
theorem spec_livePut (F:Nat)(c:GConf)(l:GLive)(hc:ConfBig c)(hl:LiveBig l)(hF:5000000<F):M.spec_LivePut F c l=some (if indexS ⟨c,[l]⟩ then liveT l else []):=by
 unfold M.spec_LivePut
 rw [spec_18Ok F ⟨c,[l]⟩ ⟨hc,by show [l].length≤_;simp only [List.length_cons,List.length_nil];omega,fun x hx=>by cases List.mem_singleton.1 hx;exact hl⟩ hF,Option.bind_some]
 cases ho:indexS ⟨c,[l]⟩
 ·rfl
 have hp:=live_p ho
 have hle:=liveT_len hp
 have hdl:=hp.docs.1
 have hzl:=hp.dead.1
 rw [Bool.not_true,cond_false]
 unfold M.spec_l19Seg
 rw [fm_while (xs:=l.Seg.Docs) docT 100000 F (by omega) (fun i d acc hx hB=>?_) (fun acc=>?_) [] (by rw [List.nil_append];omega),Option.bind_some,Option.bind_some,List.nil_append,fm_while (xs:=l.Dead) deadT 100000 F (by omega) (fun i z acc hx hB=>?_) (fun acc=>?_) _ (by rw [List.length_append];omega)]
 ·rfl
 ·have hi:=(List.getElem?_eq_some_iff.1 hx).1
  have hz:=hp.dead.2 z (List.mem_of_getElem? hx)
  have hn:=dec_small F hz.1 hz.2 (by omega)
  have hacc:acc.length≤100000:=by simp only [List.length_append] at hB;omega
  dsimp only
  rw [decide_eq_true (by omega),cond_true,catSk (by simp only [List.length_cons,List.length_nil];omega),Option.bind_some,getI_nat',hx,Option.bind_some,hn.1,Option.bind_some,catSk (by simp only [List.length_append,List.length_cons,List.length_nil];omega),Option.bind_some,catSk (by simp only [List.length_append,List.length_cons,List.length_nil];omega),Option.bind_some,w64_succ' (by omega)]
  unfold deadT
  simp only [List.append_assoc]
 ·dsimp only
  rw [decide_eq_false (by omega)];rfl
 ·have hi:=(List.getElem?_eq_some_iff.1 hx).1
  have hd:=hp.docs.2 d (List.mem_of_getElem? hx)
  have hacc:acc.length≤100000:=by simp only [List.length_append] at hB;omega
  dsimp only
  rw [decide_eq_true (by omega),cond_true,getI_nat',hx,Option.bind_some,spec_docPut F d hd (by omega),Option.bind_some,catSk (by have:=(docT_len (doc_p hd)).1;omega),Option.bind_some,w64_succ' (by omega)]
 ·dsimp only
  rw [decide_eq_false (by omega)];rfl
theorem law_exactLivePut (c:GConf)(l:GLive)(hc:ConfLen c)(hl:LiveLen l): ∃F,M.laws_FnExactLivePut F c l=some true:=by
 refine⟨10000000,?_⟩
 generalize hF:10000000=F
 unfold M.laws_FnExactLivePut
 obtain⟨r,hr,h1⟩:=szConf F c 1048576 (by omega) (by omega) (by omega) hc
 rw [hr,Option.bind_some]
 by_cases hn:r<0
 ·rw [decide_eq_true hn];rfl
 obtain⟨hle,hcb⟩:=h1 (by omega)
 obtain⟨q,hq,h2⟩:=szLive F l r (by omega) hle (by omega) hl
 rw [decide_eq_false hn,cond_false,hq,Option.bind_some]
 by_cases hn2:q<0
 ·rw [decide_eq_true hn2];rfl
 obtain⟨_,hlb⟩:=h2 (by omega)
 have htc:=toConf F c (by omega) hcb
 have htl:=toLive F l (by omega) hlb
 rw [decide_eq_false hn2,cond_false,htc,Option.bind_some,htl,Option.bind_some,spec_livePut F c l hcb hlb (by omega),Option.bind_some,Option.bind_some,Option.bind_some,impl_livePut F c l hcb hlb (by omega),Option.bind_some,beq_self_eq_true,Bool.not_true,cond_false,Option.bind_some,eqConf F c (by omega) hcb,Option.bind_some,Bool.not_true,cond_false,Option.bind_some,eqLive F l (by omega) hlb]
 rfl
end Go.Fk
