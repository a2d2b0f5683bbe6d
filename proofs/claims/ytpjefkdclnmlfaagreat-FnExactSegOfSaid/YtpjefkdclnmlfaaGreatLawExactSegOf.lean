/-
  The program's SegOf is the reference's, for all documents, and neither keeps nor hands back what is the caller's. Of no program.
-/
import Derived.Test.YtpjefkdclnmlfaaGreatLawMarks
import Derived.Test.YtpjefkdclnmlfaaGreatLawExactA
import Derived.Test.YtpjefkdclnmlfaaGreatLawDrs
set_option linter.unusedVariables false
namespace Go.Fk
open Go
theorem eqEntrysP (F:Nat)(xs:List GEntry)(hF:2000000<F)(hl:xs.length≤1048576∧∀s∈xs,PostsBig s):M.laws_eqEntryS F xs xs=some true:=by
 have hle:=hl.1
 unfold M.laws_eqEntryS
 rw [beq_self_eq_true,Bool.not_true,cond_false,clean0' (n:=xs.length) F (by omega) (fun i hi=>?_) ?_]
 ·rfl
 ·rw [decide_eq_false (by omega)];rfl
 ·rw [decide_eq_true (by omega),cond_true,getI_at hi,Option.bind_some,Option.bind_some]
  unfold M.laws_eqEntry
  rw [beq_self_eq_true,beq_self_eq_true,eqPosts F _ hF (hl.2 _ (List.getElem_mem hi)),w64_succ' (by omega)]
  rfl
theorem spec_segOfX (F:Nat)(c:GConf)(ds:List GDoc)(hc:ConfBig c)(hd:ds.length≤1048576∧∀d∈ds,DocBig 1048576 d)(hF:5000000<F):M.spec_SegOf F c ds=some (segOf c ds):=by
 cases hds:docsS ds with
 | true=>exact spec_segOf F 1048576 c ds (docs_fit hds) hc.fit (by omega) (by omega)
 | false=>
  unfold M.spec_SegOf segOf
  rw [spec_conf F 1048576 c hc.fit (by omega) (by omega),Option.bind_some]
  cases hcs:confS c
  ·rfl
  rw [Bool.not_true,cond_false,spec_docsB F 1048576 ds hd.1 hd.2 (by omega) (by omega),Option.bind_some,hds];rfl
theorem docs_lens {K:KMap}{a:Option Addr}{n c:Nat}{xs:List GDoc}(h:SliceAt tGDoc K a n c xs):xs.length≤maxLen∧∀d∈xs,DocLen d:=
 ⟨h.max,fun d hd=>by
  obtain⟨u,a2,n2,c2,a3,n3,c3,_,_,k1,k2⟩:=h.all d hd
  exact doc_lens k1 k2⟩
theorem law_exactSegOf (c:GConf)(ds:List GDoc)(hc:ConfLen c)(hd:ds.length≤maxLen∧∀d∈ds,DocLen d): ∃F,M.laws_FnExactSegOf F c ds=some true:=by
 refine⟨10000000,?_⟩
 generalize hF:10000000=F
 unfold M.laws_FnExactSegOf
 obtain⟨r,hr,h1⟩:=szConf F c 1048576 (by omega) (by omega) (by omega) hc
 rw [hr,Option.bind_some]
 by_cases hn:r<0
 ·rw [decide_eq_true hn];rfl
 obtain⟨hle,hcb⟩:=h1 (by omega)
 obtain⟨q,hq,h2⟩:=szDocs F ds r (by omega) hle (by omega) hd
 rw [decide_eq_false hn,cond_false,hq,Option.bind_some]
 by_cases hn2:q<0
 ·rw [decide_eq_true hn2];rfl
 obtain⟨_,hb⟩:=h2 (by omega)
 have hst:=hcb.1.1
 have hi:=impl_segOf F c ds (by omega) (by omega) (by omega)
 have hsp:=spec_segOfX F c ds hcb hb (by omega)
 have hxb:((segOf c ds).Docs.length≤1048576∧∀d∈(segOf c ds).Docs,DocBig 1048576 d)∧(segOf c ds).Entries.length≤1048576∧∀e∈(segOf c ds).Entries,PostsBig e:=by
  obtain⟨_,f2⟩:=segOf_fits c ds
  refine⟨?_,by have:=f2.1;omega,fun e he=>⟨by have:=(f2.2 e he).1;omega,fun p hp=>by have:=(f2.2 e he).2 p hp;omega⟩⟩
  unfold segOf
  split
  ·exact hb
  ·exact⟨Nat.zero_le _,fun d hd=>by cases hd⟩
 generalize segOf c ds=x at *
 obtain⟨hxd,hxe⟩:=hxb
 have heq:M.laws_eqSeg F x x=some true:=by
  unfold M.laws_eqSeg
  rw [eqDocs F x.Docs (by omega) hxd,Option.bind_some,eqEntrysP F x.Entries (by omega) hxe];rfl
 have htc:=toConf F c (by omega) hcb
 have htd:=toDocs F ds (by omega) hb
 obtain⟨m,hm,hml⟩:=mkConf F c 1 (by omega) hcb (by omega)
 obtain⟨m',hm',_⟩:=mkDocs F ds m (by omega) hb (by omega)
 have hm1:M.laws_markConf F c 1=some (m:Int):=hm
 obtain⟨k,hk,hkl⟩:=docs_end F x.Docs 1 hxd (by omega)
 obtain⟨j,hj,_⟩:=entrys_end (1048576*2097160+20) F (by omega) x.Entries k hxe (by omega)
 have hk1:(mkRow (stepGDoc F) (1:Int) x.Docs).2=(k:Int):=hk
 have hmk:M.laws_markSeg F x 1=some (j:Int):=by
  unfold M.laws_markSeg
  rw [show M.laws_markDocS F x.Docs 1=some (k:Int) from(mEqDocs F x.Docs 1 (by omega) hxd (by omega)).trans (congrArg some hk),Option.bind_some,mEqEntrys _ F (Nat.le_refl _) x.Entries k (by omega) hxe (by omega),hj];rfl
 have hhd:M.laws_heldSeg F ⟨(mkRow (stepGDoc F) (1:Int) x.Docs).1,(mkRow (stepGEntry F) (mkRow (stepGDoc F) (1:Int) x.Docs).2 x.Entries).1⟩ 1=some (j:Int):=by
  unfold M.laws_heldSeg
  dsimp only
  rw [hk1,show M.laws_heldDocS F (mkRow (stepGDoc F) (1:Int) x.Docs).1 1=some (k:Int) from(heldDocs F x.Docs 1 (by omega) hxd (by omega)).trans (congrArg some hk),Option.bind_some,decide_eq_false (by omega),cond_false,heldEntrys _ F (Nat.le_refl _) x.Entries k (by omega) hxe (by omega),hj,Option.bind_some,decide_eq_false (by omega)];rfl
 rw [decide_eq_false hn2,cond_false,htc,Option.bind_some,htd,Option.bind_some,hsp,Option.bind_some,Option.bind_some,Option.bind_some,hi,Option.bind_some,heq,Option.bind_some,Bool.not_true,cond_false,Option.bind_some,eqConf F c (by omega) hcb,Option.bind_some,Bool.not_true,cond_false,Option.bind_some,eqDocs F ds (by omega) hb,Option.bind_some,Bool.not_true,cond_false,hm1,Option.bind_some,hm',Option.bind_some,decide_eq_false (by omega),cond_false,Option.bind_some,Bool.not_true,Option.bind_some,cond_false,hmk,Option.bind_some,hhd,Option.bind_some,decide_eq_false (by omega),cond_false,beq_self_eq_true,Bool.not_true,cond_false,Option.bind_some,Option.bind_some,hi,Option.bind_some,heq,Option.bind_some,Bool.not_true,cond_false,Option.bind_some,decide_eq_false (by omega),cond_false,beq_self_eq_true]
 rfl
end Go.Fk
