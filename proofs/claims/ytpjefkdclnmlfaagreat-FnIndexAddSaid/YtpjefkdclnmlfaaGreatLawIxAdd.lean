/-
  What is added is there, in the place of what had its number: the law. Of no program.
-/
import Derived.Test.YtpjefkdclnmlfaaGreatLawMP
set_option linter.unusedVariables false
namespace Go.Fk
open Go
theorem find_gen (F:Nat)(ds:List GDoc)(id:Int)(hl:ds.length≤1000)(hF:2000<F):M.laws_foFind F ds id=some ((ds.find? fun d=>d.Id==id).getD ⟨0,[],[]⟩):=
 spec_docI F ⟨ds,[]⟩ id (by show ds.length≤_;omega) (by show ds.length<_;omega)
theorem find_in {ds:List GDoc}{d:GDoc}(h:docsS ds=true)(hd:d∈ds):(ds.find? fun e=>e.Id==d.Id)=some d:=by
 cases hf:ds.find? fun e=>e.Id==d.Id with
 | none=>
  have:=List.find?_eq_none.1 hf d hd
  simp at this
 | some e=>
  have he:=List.mem_of_find?_eq_some hf
  have hi:e.Id=d.Id:=beq_iff_eq.1 (List.find?_some (p:=fun e:GDoc=>e.Id==d.Id) hf)
  obtain⟨i,hi',rfl⟩:=List.mem_iff_getElem.1 he
  obtain⟨j,hj',rfl⟩:=List.mem_iff_getElem.1 hd
  have hp:=docsS_up h
  rcases Nat.lt_trichotomy i j with q | q | q
  ·have:=List.pairwise_iff_getElem.1 hp i j hi' hj' q;omega
  ·subst q;rfl
  ·have:=List.pairwise_iff_getElem.1 hp j i hj' hi' q;omega
theorem impl_ids (F:Nat)(docs:List GDoc)(hl:docs.length≤1000):M.impl_idsOf F docs=some (docs.map (·.Id)):=by
 unfold M.impl_idsOf
 obtain⟨t,ht,hp⟩:=forE_run' (σ:=List Int) (f:=fun (i27:Nat) (s23:(List Int))=>((getI docs ((i27:Nat):Int)).bind fun x40=>((catL 8 s23 ([x40.Id]:List Int)).bind fun x71=>(some x71))))
  (fun i s=>s=(docs.take i).map (·.Id)) docs.length (fun i s hi hs=>by
   subst hs
   have h4:=List.length_take_le i docs
   refine⟨_,?_,rfl⟩
   rw [getI_at hi,Option.bind_some,catLok (by simp only [List.length_map,List.length_singleton];omega),Option.bind_some,List.take_succ_eq_append_getElem hi,List.map_append]
   rfl) docs.length 0 [] (by omega) (by rw [List.take_zero];rfl)
 rw [ht,hp,List.take_length]
 rfl
theorem addZ_m {x:GIndex}{docs:List GDoc}(h:indexS x=true)(hc:ConfFit 100 x.Conf)(hd:docsS docs=true):IdxM 6 76 (addZ x docs):=by
 have hm:=index_m h hc
 have hg:=fullX_m (gone_fold docs hm)
 have h16:=(docs_ids hd).1
 refine⟨hc,?_,fun l hl=>?_⟩
 ·have:=hg.segs
  show ((fullX _).Segs++[_]).length≤6
  simp only [List.length_append,List.length_singleton];omega
 ·rcases List.mem_append.1 (show l∈(fullX _).Segs++[_] from hl) with hl | hl
  ·have:=hg.live l hl
   exact⟨this.docs,this.ents,by have:=this.dead;omega⟩
  ·rcases List.mem_singleton.1 hl with rfl
   have:=segS_m (c:=x.Conf) hd
   exact⟨this.docs,this.ents,Nat.zero_le _⟩
theorem impl_addX (F:Nat)(x:GIndex)(docs:List GDoc)(h:IdxN 6 62 x)(hd:DocsFit docs)(hF:5000000<F):M.impl_IndexAdd F x docs=some (addX x docs):=by
 have hdl:=hd.few
 have hst:=h.conf.stops.1
 unfold M.impl_IndexAdd addX
 rw [h.impl_ok F (by omega),Option.bind_some]
 cases hx:indexS x with
 | false=>rfl
 | true=>
  have hm:=index_m hx h.conf
  have hal: ∀l∈x.Segs,(aliveS l).length≤100:=fun l hl=>Nat.le_trans (alive_le l) (hm.live l hl).docs.few
  have hcl:=impl_copyX F x (hm.le (by omega) (by omega)) (by omega)
  have hb:((cond ((docs.length:Int)==0) (some true) ((M.impl_DocsOk F docs).bind fun r78=>(some (!r78)))):Option Bool)=some (!docsS docs||((docs.length:Int)==0)):=by
   rw [impl_docs F docs (by omega)]
   cases (docs.length:Int)==0<;>cases docsS docs<;>rfl
  rw [Bool.not_true,cond_false,hcl,Option.bind_some,hb,Option.bind_some,if_pos rfl]
  by_cases hq:(!docsS docs||((docs.length:Int)==0))=true
  ·rw [if_pos hq,hq,cond_true]
  ·have hds:docsS docs=true:=by
    cases e:docsS docs with
    | true=>rfl
    | false=>rw [e] at hq;exact absurd rfl hq
   have hzm:=addZ_m hx h.conf hds
   have hso:segOf x.Conf docs=segS x.Conf docs:=by
    unfold segOf
    rw [(index_sort hx).1,hds];rfl
   have hfl:(fullX (docs.foldl (fun y d=>goneX d.Id y) x)).Segs.length≤5:=(fullX_m (gone_fold docs hm)).segs
   rw [if_neg hq,Bool.eq_false_iff.2 hq,cond_false,impl_ids F docs (by omega),Option.bind_some,impl_drop F x _ (hm.le (by omega) (by omega)) hal,Option.bind_some]
   dsimp only
   rw [drop_all hx,impl_segOf F x.Conf docs (by omega) (by omega) (by omega),hso,Option.bind_some,catLok (by simp only [List.length_singleton];omega),Option.bind_some,Option.bind_some]
   show Option.bind (M.impl_IndexOk F (addZ x docs)) _=_
   rw [impl_indexOk F (addZ x docs) (by show x.Conf.Stops.length≤_;omega) (fun l hl=>⟨by have:=(hzm.live l hl).docs.few;omega,by have:=(hzm.live l hl).dead;omega⟩) (by omega),Option.bind_some]
   cases indexS (addZ x docs) with
   | true=>rfl
   | false=>rw [Bool.not_false,cond_true];rfl
theorem spec_addN (F:Nat)(x:GIndex)(docs:List GDoc)(hm:IndexMid x)(hc:ConfFit 100 x.Conf)(hd:DocsFit docs)(hF:5000000<F):M.spec_IndexAdd F x docs=some (addX x docs):=by
 cases hx:indexS x with
 | true=>exact spec_add F x docs ((index_m hx hc).le (by omega) (by omega)) hd hF
 | false=>
  unfold M.spec_IndexAdd addX
  rw [spec_18OkD F x hm hF,hx];rfl
theorem drawIndexAdd_ok (F:Nat)(code:List UInt8)(hF:5000000<F): ∃x ds,M.spec_DrawIndexAdd F code=some (x,ds)∧IdxN 6 62 x∧DocsFit ds:=by
 unfold M.spec_DrawIndexAdd
 obtain⟨r,hr,h1,h2⟩:=open_ok F code
 rw [hr,Option.bind_some]
 obtain⟨x,p,hx,⟨q0,q1⟩,hm⟩:=anyIdx_ok F r ⟨h1,by omega,by omega⟩ hF
 rw [hx,Option.bind_some]
 dsimp only
 obtain⟨ds,q,hds,_,hdd⟩:=anyDocs_ok F ⟨r.b_,p⟩ ⟨h1,by simp only;omega,by simp only;omega⟩ (by omega)
 rw [hds]
 exact⟨_,_,rfl,hm,hdd.fit (by omega)⟩
theorem law_indexAdd (code:List UInt8): ∃F,M.laws_FnIndexAdd F code=some true:=by
 refine⟨10000000,?_⟩
 generalize hF:10000000=F
 unfold M.laws_FnIndexAdd
 cases decide ((1048576:Int)<(code.length:Int))
 case true=>rfl
 obtain⟨x,docs,hx,hn,hdf⟩:=drawIndexAdd_ok F code (by omega)
 have hjm:IdxM 5 60 (addX x docs).1:=addX_m hn.conf
 have hfo:=foIndex_same F (addX x docs).1 (hjm.le (by omega) (by omega)) (by omega)
 have hsok:M.spec_IndexOk F x=some (indexS x):=by
  unfold M.spec_IndexOk
  rw [spec_18OkD F x (hn.mid (by omega) (by omega)) (by omega)];rfl
 have hiok:=hn.impl_ok F (by omega)
 rw [cond_false,hx,Option.bind_some]
 dsimp only
 rw [impl_addX F x docs hn hdf (by omega),Option.bind_some,spec_addN F x docs (hn.mid (by omega) (by omega)) hn.conf hdf (by omega),Option.bind_some,beq_self_eq_true,Bool.not_true,cond_false,hfo,Option.bind_some,Bool.not_true,cond_false,hiok,Option.bind_some,hsok,Option.bind_some,beq_self_eq_true,Bool.not_true,cond_false,Option.bind_some,Option.bind_some]
 cases ho:indexS x with
 | false=>rw [Bool.not_false,cond_true,cond_true,Option.bind_some,cond_true,Option.bind_some,Option.bind_some,beq_self_eq_true,Option.bind_some]
 | true=>
  rw [Bool.not_true,cond_false]
  by_cases hq:(!docsS docs||((docs.length:Int)==0))=true
  ·have hj:addX x docs=(x,false):=by
    unfold addX
    rw [if_pos ho,if_pos hq]
   rw [hj] at hfo ⊢
   dsimp only at hfo ⊢
   rw [Bool.not_false,cond_true,hfo];rfl
  by_cases hz:indexS (addZ x docs)=true
  case neg=>
   have hj:addX x docs=(x,false):=by
    unfold addX
    rw [if_pos ho,if_neg hq,if_neg hz]
   rw [hj] at hfo ⊢
   dsimp only at hfo ⊢
   rw [Bool.not_false,cond_true,hfo];rfl
  have hds:docsS docs=true:=by
   cases e:docsS docs with
   | true=>rfl
   | false=>rw [e] at hq;exact absurd rfl hq
  have hj:addX x docs=(addZ x docs,true):=by
   unfold addX
   rw [if_pos ho,if_neg hq,if_pos hz]
  rw [hj] at hjm ⊢
  dsimp only at hjm ⊢
  have hN:IdxN 6 62 (addZ x docs):=⟨hjm.conf,Nat.le_trans hjm.segs (by omega),fun l hl=>⟨(hjm.live l hl).docs,by have:=(hjm.live l hl).dead;omega,(hjm.live l hl).ents.le (by omega)⟩⟩
  have hold:=idxDocs_ok ho
  have hnow:=idxDocs_ok hz
  have o16:=(docs_ids hold).1
  have n16:=(docs_ids hnow).1
  have d16:=(docs_ids hds).1
  have hmem: ∀d,d∈idxDocs (addZ x docs)↔(d∈idxDocs x∧d.Id∉docs.map (·.Id))∨d∈docs:=fun d=>by
   unfold idxDocs
   rw [if_pos hz,if_pos ho,(sortD_perm _).mem_iff,(sortD_perm _).mem_iff,add_docs ho,List.mem_append,List.mem_filter,←any_mem]
   cases (docs.map (·.Id)).any fun z=>d.Id==z<;>simp
  have hfind: ∀d∈idxDocs (addZ x docs),M.laws_foFind F (idxDocs (addZ x docs)) d.Id=some d:=fun d hd=>by
   rw [find_gen F _ _ (by omega) (by omega),find_in hnow hd];rfl
  have hlen:(idxDocs (addZ x docs)).length=((idxDocs x).filter fun d=> !((docs.map (·.Id)).any fun z=>d.Id==z)).length+docs.length:=by
   have hp:((allS x.Segs).filter fun d=> !((docs.map (·.Id)).any fun z=>d.Id==z)).length=((idxDocs x).filter fun d=> !((docs.map (·.Id)).any fun z=>d.Id==z)).length:=by
    unfold idxDocs
    rw [if_pos ho]
    exact((sortD_perm _).filter _).length_eq.symm
   conv=>lhs;unfold idxDocs
   rw [if_pos hz,sortD_len,add_docs ho,List.length_append,hp]
  have hdfit:=idxDocs_fit x
  rw [Bool.not_true,cond_false,hn.impl_docs F (by omega),Option.bind_some,hN.impl_docs F (by omega),Option.bind_some]
  have key:=fold_while (xs:=idxDocs x) (fun (n:Int) d=>if (docs.map (·.Id)).any (fun z=>d.Id==z) then n else n+1) (fun i n=>0≤n∧n≤100+i) (fun n=>(.inl n:Int⊕Bool)) (fun (n:Int) (i:Int)=>(n,i)) ((docs.length:Int)) (s0:=((docs.length:Int),(0:Int))) rfl F (by omega) ⟨by omega,by omega⟩
   (f:=fun (s252:Int×Int)=>(cond (decide (s252.2<((idxDocs x).length:Int))) ((getI (idxDocs x) s252.2).bind fun x268=>((M.laws_foFind F docs x268.Id).bind fun r286=>(((cond (r286.Id==0) ((getI (idxDocs x) s252.2).bind fun x328=>(some ((w64 (s252.1+1)),x328))) (some (s252.1,r286))):Option (Int×GDoc)).bind fun o309=>((getI (idxDocs x) s252.2).bind fun x352=>((M.laws_foFind F (idxDocs (addZ x docs)) x352.Id).bind fun r370=>((M.laws_foDoc F r370 o309.2).bind fun r387=>(cond (!r387) (some (.inr (.inr false))) (some (.inl (o309.1,(w64 (s252.2+1)))))))))))) (some (.inr (.inl s252.1)))))
   (fun i o n hxo hI=>by
    have hi:=(List.getElem?_eq_some_iff.1 hxo).1
    have hom:=List.mem_of_getElem? hxo
    refine⟨?_,?_⟩
    ·dsimp only
     rw [decide_eq_true (by omega),cond_true,getI_nat',hxo,Option.bind_some,find_gen F docs _ (by omega) (by omega),Option.bind_some]
     by_cases hc:o.Id∈docs.map (·.Id)
     ·obtain⟨d,hd,e⟩:=List.mem_map.1 hc
      have hd1:=(docs_ids hds).2.1 d hd
      have hin:d∈idxDocs (addZ x docs):=(hmem d).2 (.inr hd)
      rw [←e,find_in hds hd,Option.getD_some,beq_eq_false_iff_ne.2 (by omega),cond_false,Option.bind_some,Option.bind_some]
      dsimp only
      rw [←e,hfind d hin,Option.bind_some,foDoc_same F d (hdf.doc d hd) (by omega),Option.bind_some,Bool.not_true,cond_false,w64_succ' (by omega),if_pos ((any_mem _ _).2 (List.mem_map.2 ⟨d,hd,rfl⟩))]
     ·have hno:(docs.find? fun d=>d.Id==o.Id)=none:=List.find?_eq_none.2 fun d hd hq=>hc (List.mem_map.2 ⟨d,hd,beq_iff_eq.1 hq⟩)
      have hin:o∈idxDocs (addZ x docs):=(hmem o).2 (.inl ⟨hom,hc⟩)
      have hna: ¬((docs.map (·.Id)).any fun z=>o.Id==z)=true:=fun h=>hc ((any_mem _ _).1 h)
      have hw:w64 (n+1)=n+1:=w64_of ⟨by omega,by omega⟩
      rw [hno,Option.getD_none,beq_self_eq_true,cond_true,Option.bind_some,Option.bind_some,Option.bind_some]
      dsimp only
      rw [hfind o hin,Option.bind_some,foDoc_same F o (hdfit.doc o hom) (by omega),Option.bind_some,Bool.not_true,cond_false,w64_succ' (by omega),hw,if_neg hna]
    ·split<;>omega) (fun n hI=>by
    dsimp only
    rw [decide_eq_false (by omega)];rfl)
  have hsum: ∀(os:List GDoc) (n:Int),os.foldl (fun (n:Int) d=>if (docs.map (·.Id)).any (fun z=>d.Id==z) then n else n+1) n=n+(((os.filter fun d=> !((docs.map (·.Id)).any fun z=>d.Id==z)).length:Nat):Int):=fun os=>by
   induction os with
   | nil=>intro n;simp
   | cons d r ih=>
    intro n
    rw [List.foldl_cons,ih,List.filter_cons]
    cases (docs.map (·.Id)).any fun z=>d.Id==z with
    | true=>simp
    | false=>simp;omega
  rw [key.1,hsum]
  simp only [Option.bind_some,Sum.elim_inl]
  rw [clean0' (n:=docs.length) F (by omega) (fun i hi=>?_) ?_]
  ·simp only [Option.bind_some,Sum.elim_inl]
   rw [hN.impl_ok F (by omega),hz,Option.bind_some,cond_true,hlen]
   exact congrArg some (beq_iff_eq.2 (by omega))
  ·rw [decide_eq_false (by omega)];rfl
  ·have hd:=List.getElem_mem hi
   rw [decide_eq_true (by omega),cond_true,getI_at hi,Option.bind_some,Option.bind_some,hfind _ ((hmem _).2 (.inr hd)),Option.bind_some,foDoc_same F _ (hdf.doc _ hd) (by omega),Option.bind_some,Bool.not_true,cond_false,w64_succ' (by omega)]
end Go.Fk
