/-
  The program's ShardOf is the reference's, for all documents, and neither keeps nor hands back what is the caller's. Of no program.
-/
import Derived.Test.YtpjefkdclnmlfaaLawMarks
import Derived.Test.YtpjefkdclnmlfaaLawExactA
import Derived.Test.YtpjefkdclnmlfaaLawShard
set_option linter.unusedVariables false
namespace Go.Fk
open Go
theorem impl_shardX (F:Nat)(ds:List GDoc)(many which:Int)(hl:ds.length≤1048576):M.impl_ShardOf F ds many which=some (shardS ds many which):=by
 cases hds:docsS ds with
 | false=>
  unfold M.impl_ShardOf shardS
  rw [impl_docs F ds (by omega),hds,Option.bind_some];rfl
 | true=>
  by_cases hm:1≤many∧many≤4
  ·exact impl_shard F ds many which (docs_fit hds) ⟨by omega,by omega⟩
  ·have h1:(decide (1≤many)&&decide (many≤4))=false:=by
    rw [←Bool.not_eq_true,Bool.and_eq_true,decide_eq_true_iff,decide_eq_true_iff];exact hm
   unfold M.impl_ShardOf M.impl_shardOk shardS shardOkS
   rw [impl_docs F ds (by omega),hds,Option.bind_some,Bool.not_true,cond_false,withinS,h1,Option.bind_some];rfl
theorem spec_shardX (F:Nat)(ds:List GDoc)(many which:Int)(hl:ds.length≤1048576∧∀d∈ds,DocBig 1048576 d)(hF:2000000<F):M.spec_ShardOf F ds many which=some (shardS ds many which):=by
 cases hds:docsS ds with
 | false=>
  unfold M.spec_ShardOf shardS
  rw [spec_docsB F 1048576 ds hl.1 hl.2 (by omega) (by omega),hds,Option.bind_some];rfl
 | true=>
  by_cases hm:1≤many∧many≤4
  ·exact spec_shard F ds many which (docs_fit hds) ⟨by omega,by omega⟩ (by omega)
  ·have h1:(decide (1≤many)&&decide (many≤4))=false:=by
    rw [←Bool.not_eq_true,Bool.and_eq_true,decide_eq_true_iff,decide_eq_true_iff];exact hm
   unfold M.spec_ShardOf shardS shardOkS
   rw [spec_docsB F 1048576 ds hl.1 hl.2 (by omega) (by omega),hds,Option.bind_some,Bool.not_true,cond_false,inS,h1,Option.bind_some];rfl
theorem docs_lens {K:KMap}{a:Option Addr}{n c:Nat}{xs:List GDoc}(h:SliceAt tGDoc K a n c xs):xs.length≤maxLen∧∀d∈xs,DocLen d:=
 ⟨h.max,fun d hd=>by
  obtain⟨u,a2,n2,c2,a3,n3,c3,_,_,k1,k2⟩:=h.all d hd
  exact doc_lens k1 k2⟩
theorem law_exactShardOf (ds:List GDoc)(many which:Int)(hd:ds.length≤maxLen∧∀d∈ds,DocLen d): ∃F,M.laws_FnExactShardOf F ds many which=some true:=by
 refine⟨10000000,?_⟩
 generalize hF:10000000=F
 unfold M.laws_FnExactShardOf
 obtain⟨r,hr,h1⟩:=szDocs F ds 1048576 (by omega) (by omega) (by omega) hd
 rw [hr,Option.bind_some]
 by_cases hn:r<0
 ·rw [decide_eq_true hn];rfl
 obtain⟨_,hb⟩:=h1 (by omega)
 have ht:=toDocs F ds (by omega) hb
 have hi:=impl_shardX F ds many which hb.1
 have hsp:=spec_shardX F ds many which hb (by omega)
 have hsub: ∀d∈shardS ds many which,d∈ds:=fun d hd=>by
  unfold shardS at hd
  split at hd
  ·exact(List.mem_filter.1 hd).1
  ·cases hd
 have hlen:(shardS ds many which).length≤1048576:=by
  unfold shardS
  split
  ·exact Nat.le_trans (List.length_filter_le ..) hb.1
  ·exact Nat.zero_le _
 have hxb:(shardS ds many which).length≤1048576∧∀d∈shardS ds many which,DocBig 1048576 d:=⟨hlen,fun d hd=>hb.2 d (hsub d hd)⟩
 generalize shardS ds many which=xs at *
 have heq:=eqDocs F xs (by omega) hxb
 obtain⟨m,hm,_⟩:=mkDocs F ds 1 (by omega) hb (by omega)
 have hm1:M.laws_markDocS F ds 1=some (m:Int):=hm
 obtain⟨q,hq,_⟩:=docs_end F xs 1 hxb (by omega)
 have hmk:M.laws_markDocS F xs 1=some (q:Int):=(mEqDocs F xs 1 (by omega) hxb (by omega)).trans (congrArg some hq)
 have hhd:M.laws_heldDocS F (mkRow (stepGDoc F) (1:Int) xs).1 1=some (q:Int):=(heldDocs F xs 1 (by omega) hxb (by omega)).trans (congrArg some hq)
 rw [decide_eq_false hn,cond_false,ht,Option.bind_some,hsp,Option.bind_some,Option.bind_some,hi,Option.bind_some,heq,Option.bind_some,Bool.not_true,cond_false,Option.bind_some,eqDocs F ds (by omega) hb,Option.bind_some,Bool.not_true,cond_false,hm1,Option.bind_some,decide_eq_false (by omega),cond_false,Option.bind_some,Bool.not_true,Option.bind_some,cond_false,hmk,Option.bind_some,hhd,Option.bind_some,decide_eq_false (by omega),cond_false,beq_self_eq_true,Bool.not_true,cond_false,Option.bind_some,hi,Option.bind_some,heq,Option.bind_some,Bool.not_true,cond_false,Option.bind_some,decide_eq_false (by omega),cond_false,beq_self_eq_true]
 rfl
end Go.Fk
