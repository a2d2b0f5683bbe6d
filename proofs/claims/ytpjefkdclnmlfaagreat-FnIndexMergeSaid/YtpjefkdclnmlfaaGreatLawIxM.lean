/-
  Pieces that become one: the law. Of no program.
-/
import Derived.Test.YtpjefkdclnmlfaaGreatLawFin
set_option linter.unusedVariables false
namespace Go.Fk
open Go
theorem impl_copyLive (F:Nat)(l:GLive)(h:LiveM 10000 l)(hF:30000<F):M.impl_cloneLive F l=some l:=by
 have hd:=h.docs
 have he:=h.ents
 have h1:=he.1
 have h2:=h.dead
 unfold M.impl_cloneLive
 rw [impl_clones F l.Seg.Docs hd,Option.bind_some,catLok (by simp only [List.length_nil];omega),List.nil_append,Option.bind_some,Option.bind_some]
 have key:=forE_run' (σ:=GLive) (f:=fun (i1290:Nat) (s1286:GLive)=>((getI l.Seg.Entries ((i1290:Nat):Int)).bind fun x1312=>((((forE (fun (i1354:Nat) (s1350:(List GPost))=>((getI x1312.Posts ((i1354:Nat):Int)).bind fun x1372=>((catL 8 [] x1372.At).bind fun x1400=>((catL 32 s1350 ([(GPost.mk x1372.Doc x1400)]:List GPost)).bind fun x1418=>(some x1418))))) x1312.Posts.length 0 []).bind fun s1350=>(some s1350)):Option (List GPost)).bind fun o1339=>((catL 56 s1286.Seg.Entries ([(GEntry.mk x1312.Field x1312.Term o1339)]:List GEntry)).bind fun x1443=>(some (GLive.mk (GSeg.mk s1286.Seg.Docs x1443) s1286.Dead))))))
  (fun i s=>s=⟨⟨l.Seg.Docs,l.Seg.Entries.take i⟩,l.Dead⟩) l.Seg.Entries.length (fun i s hi hs=>by
   subst hs
   have hp:=he.2 _ (List.getElem_mem hi)
   have h4:=List.length_take_le i l.Seg.Entries
   obtain⟨t,ht,hq⟩:=forE_run' (σ:=List GPost) (f:=fun (i1354:Nat) (s1350:(List GPost))=>((getI l.Seg.Entries[i].Posts ((i1354:Nat):Int)).bind fun x1372=>((catL 8 [] x1372.At).bind fun x1400=>((catL 32 s1350 ([(GPost.mk x1372.Doc x1400)]:List GPost)).bind fun x1418=>(some x1418)))))
    (fun j s=>s=l.Seg.Entries[i].Posts.take j) l.Seg.Entries[i].Posts.length (fun j s hj hs=>by
     subst hs
     have hpp:=hp.2 _ (List.getElem_mem hj)
     have h5:=List.length_take_le j l.Seg.Entries[i].Posts
     have h6:=hp.1
     refine⟨_,?_,rfl⟩
     rw [getI_at hj,Option.bind_some,catLok (by simp only [List.length_nil];omega),List.nil_append,Option.bind_some,catLok (by simp only [List.length_cons,List.length_nil];omega),Option.bind_some,List.take_succ_eq_append_getElem hj]) l.Seg.Entries[i].Posts.length 0 [] (by omega) (by rw [List.take_zero])
   refine⟨_,?_,rfl⟩
   rw [getI_at hi,Option.bind_some,ht,hq,List.take_length,Option.bind_some,Option.bind_some,catLok (by simp only [List.length_cons,List.length_nil];omega),Option.bind_some,List.take_succ_eq_append_getElem hi]
   ) l.Seg.Entries.length 0 ⟨⟨l.Seg.Docs,[]⟩,l.Dead⟩ (by omega) (by rw [List.take_zero])
 obtain⟨t,ht,hp⟩:=key
 rw [ht,hp,List.take_length]
 rfl
theorem impl_copyX (F:Nat)(x:GIndex)(h:IdxM 1000 10000 x)(hF:30000<F):M.impl_cloneIndex F x=some x:=by
 have h2:=h.segs
 unfold M.impl_cloneIndex
 rw [impl_cloneConf F x.Conf h.conf,Option.bind_some]
 have key:=forE_run' (σ:=GIndex) (f:=fun (i72:Nat) (s68:GIndex)=>((getI x.Segs ((i72:Nat):Int)).bind fun x97=>((M.impl_cloneLive F x97).bind fun r126=>((catL 72 s68.Segs ([r126]:List GLive)).bind fun x153=>(some (GIndex.mk s68.Conf x153))))))
  (fun i s=>s=⟨x.Conf,x.Segs.take i⟩) x.Segs.length (fun i s hi hs=>by
   subst hs
   have hl:=h.live _ (List.getElem_mem hi)
   have h4:=List.length_take_le i x.Segs
   refine⟨_,?_,rfl⟩
   rw [getI_at hi,Option.bind_some,impl_copyLive F _ hl (by omega),Option.bind_some,catLok (by simp only [List.length_cons,List.length_nil];omega),Option.bind_some,List.take_succ_eq_append_getElem hi]
   ) x.Segs.length 0 ⟨x.Conf,[]⟩ (by omega) (by rw [List.take_zero])
 obtain⟨t,ht,hp⟩:=key
 rw [ht,hp,List.take_length]
 rfl
theorem spec_mergeN (F:Nat)(x:GIndex)(at_:Int)(hm:IndexMid x)(hc:ConfFit 100 x.Conf)(hF:5000000<F):M.spec_IndexMerge F x at_=some (joinX x at_):=by
 cases hx:indexS x with
 | true=>exact spec_merge F x at_ ((index_m hx hc).le (by omega) (by omega)) hF
 | false=>
  unfold M.spec_IndexMerge joinX
  rw [spec_18OkD F x hm hF,hx];rfl
theorem sortT_of {A:List GDoc}(h:docsS (sortD A)=true):sortT A=some (sortD A):=if_pos (sort_ids h).2.2
theorem impl_merge (F:Nat)(x:GIndex)(at_:Int)(h:IdxN 6 62 x)(hF:5000000<F):M.impl_IndexMerge F x at_=some (joinX x at_):=by
 have hst:=h.conf.stops.1
 unfold M.impl_IndexMerge joinX
 rw [h.impl_ok F (by omega),Option.bind_some]
 cases hx:indexS x with
 | false=>rfl
 | true=>
  have hm:=index_m hx h.conf
  have hsl:=hm.segs
  have hw:w64 ((x.Segs.length:Int)-2)=(x.Segs.length:Int)-2:=w64_of ⟨by omega,by omega⟩
  rw [Bool.not_true,cond_false,impl_copyX F x (hm.le (by omega) (by omega)) (by omega),Option.bind_some,withinS,Option.bind_some,hw,if_pos rfl]
  by_cases hb:(decide (0≤at_)&&decide (at_≤(x.Segs.length:Int)-2))=true
  ·rw [if_pos hb,hb,Bool.not_true,cond_false]
   rw [Bool.and_eq_true,decide_eq_true_iff,decide_eq_true_iff] at hb
   obtain⟨k,rfl⟩:=Int.eq_ofNat_of_zero_le hb.1
   have hk:k+2≤x.Segs.length:=by omega
   have hd:=merge_docs hx k
   have hw2:w64 ((k:Int)+2)=((k+2:Nat):Int):=by rw [w64_of ⟨by omega,by omega⟩];rfl
   have s1:subL x.Segs (k:Int) ((k+2:Nat):Int)=some ((x.Segs.drop k).take 2):=by
    unfold subL
    rw [if_pos ⟨by omega,by omega,by omega⟩]
    simp [List.drop_take]
    omega
   have s2:subL x.Segs 0 (k:Int)=some (x.Segs.take k):=by
    unfold subL
    rw [if_pos ⟨by omega,by omega,by omega⟩]
    simp
   have s3:subL x.Segs ((k+2:Nat):Int) (x.Segs.length:Int)=some (x.Segs.drop (k+2)):=subL_tail hk
   have l1:((x.Segs.drop k).take 2).length≤2:=by rw [List.length_take];omega
   have l2:(x.Segs.take k).length≤5:=by rw [List.length_take];omega
   have l3:(x.Segs.drop (k+2)).length≤5:=by rw [List.length_drop];omega
   have l0:([]:List GLive).length=0:=rfl
   have sub: ∀l∈(x.Segs.drop k).take 2,LiveM 60 l:=fun l hl=>hm.live l (List.mem_of_mem_drop (List.mem_of_mem_take hl))
   have hso:segOf x.Conf (sortD (allS ((x.Segs.drop k).take 2)))=segS x.Conf (sortD (allS ((x.Segs.drop k).take 2))):=by
    unfold segOf
    rw [(index_sort hx).1,hd];rfl
   have hdl:=(docs_ids hd).1
   rw [hw2,s1,Option.bind_some,impl_all F _ (fun l hl=>by have:=(sub l hl).docs.few;omega) (by omega),Option.bind_some,sortT_of hd,Option.bind_some,impl_segOf F x.Conf _ (by omega) (by omega) (by omega),hso,Option.bind_some,Option.bind_some,s2,Option.bind_some,catLok (by omega),List.nil_append,Option.bind_some,catLok (by simp only [List.length_singleton];omega),Option.bind_some,Option.bind_some,s3,Option.bind_some,catLok (by simp only [List.length_append,List.length_singleton];omega)]
   rfl
  ·rw [if_neg hb,Bool.eq_false_iff.2 hb,Bool.not_false,cond_true]
theorem foIndex_same (F:Nat)(x:GIndex)(h:IdxM 1000 10000 x)(hF:20000<F):M.laws_foIndex F x x=some true:=by
 have h2:=h.segs
 unfold M.laws_foIndex
 rw [foConf_same F _ h.conf (by omega),Option.bind_some,Bool.not_true,cond_false,beq_self_eq_true,Bool.not_true,Option.bind_some,cond_false,clean0' (n:=x.Segs.length) F (by omega) (fun i hi=>?_) ?_]
 ·rfl
 ·rw [decide_eq_false (by omega)];rfl
 ·have hl:=h.live _ (List.getElem_mem hi)
  rw [decide_eq_true (by omega),cond_true,getI_at hi,Option.bind_some,Option.bind_some]
  unfold M.laws_foLive
  rw [foSeg_same F _ hl.docs hl.ents (by omega),Option.bind_some,cond_true,foInts_same F _ (by have:=hl.dead;omega) (by have:=hl.dead;omega),w64_succ' (by omega)]
  rfl
theorem sort_perm {A B:List GDoc}(h:A.Perm B):docsS (sortD A)=docsS (sortD B):=docsS_any ((sortD_perm A).trans (h.trans (sortD_perm B).symm)) (byId_sorted A) (byId_sorted B)
theorem sort_eq {A B:List GDoc}(h:A.Perm B)(hb:docsS (sortD B)=true):sortD A=sortD B:=up_unique ((sortD_perm A).trans (h.trans (sortD_perm B).symm)) (byId_sorted A) (docsS_up hb)
theorem alive_new (c:GConf)(ds:List GDoc):aliveS ⟨segS c ds,[]⟩=ds:=by
 unfold aliveS
 exact List.filter_eq_self.2 fun d _=>rfl
theorem allS_append (a b:List GLive):allS (a++b)=allS a++allS b:=by
 unfold allS
 rw [List.flatMap_append]
theorem merge_perm (x:GIndex)(k:Nat):(allS (mergeX x k).Segs).Perm (allS x.Segs):=by
 unfold mergeX
 dsimp only
 rw [allS_append,allS_append]
 have e1:allS [⟨segS x.Conf (sortD (allS ((x.Segs.drop k).take 2))),[]⟩]=sortD (allS ((x.Segs.drop k).take 2)):=by
  unfold allS
  rw [List.flatMap_cons,List.flatMap_nil,List.append_nil,alive_new]
 rw [e1]
 have e2:allS x.Segs=allS (x.Segs.take k)++allS ((x.Segs.drop k).take 2)++allS (x.Segs.drop (k+2)):=by
  rw [←allS_append,←allS_append,List.append_assoc]
  congr 1
  rw [←List.drop_drop,List.take_append_drop,List.take_append_drop]
 rw [e2]
 exact((sortD_perm _).append_left _).append_right _
theorem live_of {c:GConf}{ds:List GDoc}(hc:confS c=true)(h:docsS ds=true)(h0:0<ds.length):liveS c ⟨segS c ds,[]⟩=true:=by
 unfold liveS
 rw [seg_self hc h,alive_new,decide_eq_true h0]
 rfl
theorem merge_ok {x:GIndex}{k:Nat}(h:indexS x=true)(hk:k+2≤x.Segs.length):indexS (mergeX x k)=true:=by
 have h0:=h
 unfold indexS at h
 simp only [Bool.and_eq_true,decide_eq_true_eq,List.all_eq_true] at h
 have hd:=merge_docs h0 k
 have hp:=merge_perm x k
 unfold indexS
 simp only [Bool.and_eq_true,decide_eq_true_eq,List.all_eq_true]
 refine⟨⟨h.1.1,?_⟩,fun l hl=>?_,by rw [sort_perm hp];exact h.2.2⟩
 ·show ((x.Segs.take k++[_]++x.Segs.drop (k+2)).length:Int)≤5
  simp only [List.length_append,List.length_singleton,List.length_take,List.length_drop];omega
 ·rcases List.mem_append.1 hl with hl | hl
  ·rcases List.mem_append.1 hl with hl | hl
   ·exact h.2.1 l (List.mem_of_mem_take hl)
   ·rcases List.mem_singleton.1 hl with rfl
    refine live_of h.1.1 hd ?_
    rw [sortD_len]
    have hk1:k<x.Segs.length:=by omega
    have hlv:=h.2.1 _ (List.getElem_mem hk1)
    have hmem:x.Segs[k]∈(x.Segs.drop k).take 2:=by
     rw [List.drop_eq_getElem_cons hk1]
     exact List.mem_cons_self ..
    unfold liveS at hlv
    simp only [Bool.and_eq_true,decide_eq_true_eq] at hlv
    have hpos:=hlv.2.2
    have:(aliveS x.Segs[k]).length≤(allS ((x.Segs.drop k).take 2)).length:=by
     obtain⟨s,t,e⟩:=List.append_of_mem hmem
     rw [e,allS_append]
     unfold allS
     rw [List.flatMap_cons,List.length_append,List.length_append]
     omega
    omega
  ·exact h.2.1 l (List.mem_of_mem_drop hl)
theorem drawIndexMerge_ok (F:Nat)(code:List UInt8)(hF:5000000<F): ∃x k,M.spec_DrawIndexMerge F code=some (x,k)∧IdxN 6 62 x:=by
 unfold M.spec_DrawIndexMerge
 obtain⟨r,hr,h1,h2⟩:=open_ok F code
 rw [hr,Option.bind_some]
 obtain⟨x,p,hx,⟨q0,q1⟩,hm⟩:=anyIdx_ok F r ⟨h1,by omega,by omega⟩ hF
 rw [hx,Option.bind_some]
 dsimp only
 obtain⟨a,ha,_,_⟩:=pick_ok F ⟨r.b_,p⟩ 4 ⟨h1,by simp only;omega,by simp only;omega⟩
 rw [ha]
 exact⟨_,_,rfl,hm⟩
theorem law_indexMerge (code:List UInt8): ∃F,M.laws_FnIndexMerge F code=some true:=by
 refine⟨10000000,?_⟩
 generalize hF:10000000=F
 unfold M.laws_FnIndexMerge
 cases decide ((1048576:Int)<(code.length:Int))
 case true=>rfl
 obtain⟨x,at_,hx,hn⟩:=drawIndexMerge_ok F code (by omega)
 have hjm:IdxM 5 60 (joinX x at_).1:=joinX_m hn.conf
 have hfo:=foIndex_same F (joinX x at_).1 (hjm.le (by omega) (by omega)) (by omega)
 rw [cond_false,hx,Option.bind_some]
 dsimp only
 rw [impl_merge F x at_ hn (by omega),Option.bind_some,spec_mergeN F x at_ (hn.mid (by omega) (by omega)) hn.conf (by omega),Option.bind_some,beq_self_eq_true,Bool.not_true,cond_false,hfo,Option.bind_some,Bool.not_true,cond_false,hn.impl_ok F (by omega),Option.bind_some,Option.bind_some]
 cases ho:indexS x with
 | false=>rw [Bool.not_false,cond_true,cond_true,Option.bind_some,Option.bind_some]
 | true=>
  rw [Bool.not_true,cond_false]
  by_cases hb:(decide (0≤at_)&&decide (at_≤(x.Segs.length:Int)-2))=true
  ·have hj:joinX x at_=(mergeX x at_.toNat,true):=by
    unfold joinX
    rw [if_pos ho,if_pos hb]
   rw [hj] at hjm ⊢
   dsimp only
   rw [Bool.and_eq_true,decide_eq_true_iff,decide_eq_true_iff] at hb
   obtain⟨k,rfl⟩:=Int.eq_ofNat_of_zero_le hb.1
   have hk:k+2≤x.Segs.length:=by omega
   rw [show (k:Int).toNat=k from rfl] at *
   have hok:=merge_ok ho hk
   have hN:IdxN 6 62 (mergeX x k):=⟨hjm.conf,Nat.le_trans hjm.segs (by omega),fun l hl=>⟨(hjm.live l hl).docs,by have:=(hjm.live l hl).dead;omega,(hjm.live l hl).ents.le (by omega)⟩⟩
   have hm:=index_m ho hn.conf
   have hsl:=hm.segs
   have hlen:(mergeX x k).Segs.length=x.Segs.length-1:=by
    show (x.Segs.take k++[_]++x.Segs.drop (k+2)).length=_
    simp only [List.length_append,List.length_singleton,List.length_take,List.length_drop];omega
   have hle:(((mergeX x k).Segs.length:Int)==w64 ((x.Segs.length:Int)-1))=true:=by
    rw [hlen,w64_of ⟨by omega,by omega⟩]
    exact beq_iff_eq.2 (by omega)
   have hdd:idxDocs (mergeX x k)=idxDocs x:=by
    unfold idxDocs
    rw [if_pos hok,if_pos ho]
    exact sort_eq (merge_perm x k) (index_sort ho).2
   have hg:getI (mergeX x k).Segs (k:Int)=some ⟨segS x.Conf (sortD (allS ((x.Segs.drop k).take 2))),[]⟩:=by
    rw [getI_nat']
    show (x.Segs.take k++[_]++x.Segs.drop (k+2))[k]? =_
    have hlt:(x.Segs.take k).length=k:=by rw [List.length_take];omega
    rw [List.append_assoc,List.getElem?_append_right (by omega),hlt,Nat.sub_self];rfl
   rw [Bool.not_true,cond_false,hN.impl_ok F (by omega),hok,Option.bind_some,cond_true,hle,cond_true,hN.impl_docs F (by omega),Option.bind_some,hn.impl_docs F (by omega),Option.bind_some,hdd,foDocs_same F _ (idxDocs_fit x) (by omega),Option.bind_some,cond_true,hg,Option.bind_some]
   rfl
  ·have hj:joinX x at_=(x,false):=by
    unfold joinX
    rw [if_pos ho,if_neg hb]
   rw [hj] at hfo ⊢
   dsimp only at hfo ⊢
   rw [Bool.not_false,cond_true,hfo];rfl
end Go.Fk
