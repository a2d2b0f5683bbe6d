/-
  What is dropped is gone, and all else is there: the law. Of no program.
-/
import Derived.Test.YtpjefkdclnmlfaaGreatLawMP
set_option linter.unusedVariables false
namespace Go.Fk
open Go
theorem impl_alive_ar (F:Nat)(l:GLive)(hd:l.Seg.Docs.length≤1048576):M.impl_Live_alive__ar F l=some (aliveS l):=impl_alive F l hd
theorem drop_inner (F:Nat)(ids:List Int)(l:GLive)(n:Nat)(hn:n≤1000000)(ha:(aliveS l).length≤1000)(hd:l.Dead.length≤10000):
  forE (fun (i125:Nat) (s121:Int×GLive)=>((getI (aliveS l) ((i125:Nat):Int)).bind fun x154=>((M.slices_Contains_int F ids x154.Id).bind fun r178=>(cond r178 ((catL 8 s121.2.Dead ([x154.Id]:List Int)).bind fun x195=>(some ((w64 (s121.1+1)),(GLive.mk s121.2.Seg x195)))) (some (s121.1,s121.2)))))) (aliveS l).length 0 ((n:Int),l)
   =some (((n+(hitL ids l).length:Nat):Int),⟨l.Seg,l.Dead++(hitL ids l).map (·.Id)⟩):=by
 obtain⟨t,ht,hp⟩:=forE_run' (σ:=Int×GLive) (f:=fun (i125:Nat) (s121:Int×GLive)=>((getI (aliveS l) ((i125:Nat):Int)).bind fun x154=>((M.slices_Contains_int F ids x154.Id).bind fun r178=>(cond r178 ((catL 8 s121.2.Dead ([x154.Id]:List Int)).bind fun x195=>(some ((w64 (s121.1+1)),(GLive.mk s121.2.Seg x195)))) (some (s121.1,s121.2))))))
  (fun i s=>s=(((n+(((aliveS l).take i).filter fun d=>ids.any fun x=>d.Id==x).length:Nat):Int),⟨l.Seg,l.Dead++(((aliveS l).take i).filter fun d=>ids.any fun x=>d.Id==x).map (·.Id)⟩)) (aliveS l).length (fun i s hi hs=>by
   subst hs
   have h4:=List.length_take_le i (aliveS l)
   have h5:=List.length_filter_le (fun d:GDoc=>ids.any fun x=>d.Id==x) ((aliveS l).take i)
   refine⟨_,?_,rfl⟩
   dsimp only
   rw [getI_at hi,Option.bind_some,contains_id,Option.bind_some,List.take_succ_eq_append_getElem hi,List.filter_append,List.filter_cons,List.filter_nil]
   cases ids.any fun x=>(aliveS l)[i].Id==x with
   | true=>
    rw [cond_true,catLok (by simp only [List.length_append,List.length_map,List.length_singleton];omega),Option.bind_some,w64_succ' (by omega)]
    simp [Nat.add_assoc]
   | false=>simp) (aliveS l).length 0 ((n:Int),l) (by omega) (by rw [List.take_zero];simp)
 rw [ht,hp,List.take_length]
 rfl
def manyL (ids:List Int)(segs:List GLive):Nat:=(segs.map fun l=>(hitL ids l).length).sum
theorem impl_drop (F:Nat)(x:GIndex)(ids:List Int)(h:IdxM 1000 9000 x)(hs: ∀l∈x.Segs,(aliveS l).length≤100):M.impl_Index_drop F x ids=some (((manyL ids x.Segs:Nat):Int),⟨x.Conf,(x.Segs.map (dropL ids)).filter fun l=>decide (0<(aliveS l).length)⟩):=by
 have h2:=h.segs
 unfold M.impl_Index_drop
 obtain⟨t,ht,hp⟩:=forE_run' (σ:=Int×List GLive) (f:=fun (i40:Nat) (s36:Int×(List GLive))=>((getI x.Segs ((i40:Nat):Int)).bind fun x55=>((M.impl_Live_alive__ar F x55).bind fun r86=>((((forE (fun (i125:Nat) (s121:Int×GLive)=>((getI r86 ((i125:Nat):Int)).bind fun x154=>((M.slices_Contains_int F ids x154.Id).bind fun r178=>(cond r178 ((catL 8 s121.2.Dead ([x154.Id]:List Int)).bind fun x195=>(some ((w64 (s121.1+1)),(GLive.mk s121.2.Seg x195)))) (some (s121.1,s121.2)))))) r86.length 0 (s36.1,x55)).bind fun s121=>(some (s121.1,s121.2))):Option (Int×GLive)).bind fun o99=>((sortZO o99.2.Dead).bind fun x217=>((M.impl_Live_alive__ar F (GLive.mk o99.2.Seg x217)).bind fun r226=>(cond (decide (0<(r226.length:Int))) ((catL 72 s36.2 ([(GLive.mk o99.2.Seg x217)]:List GLive)).bind fun x252=>(some (o99.1,x252))) (some (o99.1,s36.2)))))))))
  (fun i s=>s=(((manyL ids (x.Segs.take i):Nat):Int),((x.Segs.take i).map (dropL ids)).filter fun l=>decide (0<(aliveS l).length))∧manyL ids (x.Segs.take i)≤100*i) x.Segs.length (fun i s hi hs'=>by
   obtain⟨hs',hb⟩:=hs'
   subst hs'
   have hl:=h.live _ (List.getElem_mem hi)
   have ha:=hs _ (List.getElem_mem hi)
   have hd:=hl.docs.few
   have h4:=List.length_take_le i x.Segs
   have hh:(hitL ids x.Segs[i]).length≤(aliveS x.Segs[i]).length:=List.length_filter_le ..
   have h5:=List.length_filter_le (fun l:GLive=>decide (0<(aliveS l).length)) ((x.Segs.take i).map (dropL ids))
   rw [List.length_map] at h5
   have e1:manyL ids (x.Segs.take (i+1))=manyL ids (x.Segs.take i)+(hitL ids x.Segs[i]).length:=by
    unfold manyL
    rw [List.take_succ_eq_append_getElem hi,List.map_append,List.sum_append];simp
   have hdd:=hl.dead
   refine⟨_,?_,rfl,by rw [e1];omega⟩
   dsimp only
   have hsz:sortZO (x.Segs[i].Dead++(hitL ids x.Segs[i]).map (·.Id))=some (sortZ (x.Segs[i].Dead++(hitL ids x.Segs[i]).map (·.Id))):=if_pos (by simp only [List.length_append,List.length_map];omega)
   rw [getI_at hi,Option.bind_some,impl_alive_ar F _ (by omega),Option.bind_some,drop_inner F ids _ _ (by omega) (by omega) (by omega),Option.bind_some,Option.bind_some]
   dsimp only
   rw [hsz,Option.bind_some,impl_alive_ar F _ (by show x.Segs[i].Seg.Docs.length≤_;omega),Option.bind_some,e1,List.take_succ_eq_append_getElem hi,List.map_append,List.filter_append,List.map_cons,List.map_nil,List.filter_cons,List.filter_nil]
   show (cond (decide ((0:Int)<((aliveS (dropL ids x.Segs[i])).length:Int))) _ _)=_
   by_cases hc:0<(aliveS (dropL ids x.Segs[i])).length
   ·rw [decide_eq_true (by omega),cond_true,catLok (by simp only [List.length_singleton];omega),Option.bind_some,if_pos (decide_eq_true hc)];rfl
   ·rw [decide_eq_false (by omega),cond_false,if_neg (by simpa using hc),List.append_nil]) x.Segs.length 0 ((0:Int),[]) (by omega) ⟨by rw [List.take_zero];rfl,by rw [List.take_zero];exact Nat.le_refl _⟩
 rw [ht,hp.1,List.take_length]
 rfl
theorem seg_p {x:GIndex}(h:indexS x=true): ∀l∈x.Segs,LiveP l:=fun l hl=>live_p ((index_parts h).2.2.1 l hl)
theorem many_one {segs:List GLive}(h: ∀l∈segs,LiveP l)(id:Int):0<manyL [id] segs↔segs.any (goes id)=true:=by
 unfold manyL
 induction segs with
 | nil=>simp
 | cons l r ih=>
  have e:(hitL [id] l).length=if goes id l then 1 else 0:=by
   have:=congrArg List.length (hit_one (h l (List.mem_cons_self ..)) id)
   rw [List.length_map] at this
   rw [this];split<;>rfl
  have ih:=ih fun l hl=>h l (List.mem_cons_of_mem _ hl)
  rw [List.map_cons,List.sum_cons,List.any_cons,Bool.or_eq_true,←ih,e]
  cases goes id l with
  | true=>simp;omega
  | false=>simp
theorem drop_full {x:GIndex}(h:indexS x=true)(id:Int):(⟨x.Conf,(x.Segs.map (dropL [id])).filter fun l=>decide (0<(aliveS l).length)⟩:GIndex)=fullX (goneX id x):=by
 have hp:=seg_p h
 unfold fullX goneX
 have e1:x.Segs.map (dropL [id])=x.Segs.map (goneL id):=List.map_congr_left fun l hl=>drop_one (hp l hl) id
 rw [e1]
 congr 1
 refine List.filter_congr fun l hl=>?_
 obtain⟨l',hl',rfl⟩:=List.mem_map.1 hl
 have:=(gone_p (hp l' hl') id).count
 exact decide_eq_decide.2 (by omega)
theorem impl_dropX (F:Nat)(x:GIndex)(id:Int)(h:IdxN 6 62 x)(hF:5000000<F):M.impl_IndexDrop F x id=some (dropX x id):=by
 unfold M.impl_IndexDrop dropX
 rw [h.impl_ok F (by omega),Option.bind_some]
 cases hx:indexS x with
 | false=>rfl
 | true=>
  have hm:=index_m hx h.conf
  have hp:=seg_p hx
  have hal: ∀l∈x.Segs,(aliveS l).length≤100:=fun l hl=>Nat.le_trans (alive_le l) (hm.live l hl).docs.few
  rw [Bool.not_true,cond_false,impl_copyX F x (hm.le (by omega) (by omega)) (by omega),Option.bind_some,impl_drop F x [id] (hm.le (by omega) (by omega)) hal,Option.bind_some,if_pos rfl,drop_full hx]
  have hmo:=many_one hp id
  cases ha:x.Segs.any (goes id) with
  | true=>rw [decide_eq_true (by have:=hmo.2 ha;omega)]
  | false=>rw [decide_eq_false (by intro hc;rw [hmo.1 (by omega)] at ha;cases ha)]
theorem spec_dropN (F:Nat)(x:GIndex)(id:Int)(hm:IndexMid x)(hc:ConfFit 100 x.Conf)(hF:5000000<F):M.spec_IndexDrop F x id=some (dropX x id):=by
 cases hx:indexS x with
 | true=>exact spec_drop F x id ((index_m hx hc).le (by omega) (by omega)) hF
 | false=>
  unfold M.spec_IndexDrop dropX
  rw [spec_18OkD F x hm hF,hx];rfl
theorem gone_all {x:GIndex}(h:indexS x=true)(id:Int):allS (fullX (goneX id x)).Segs=(allS x.Segs).filter fun d=> !(d.Id==id):=by
 have hp:=seg_p h
 rw [←drop_full h]
 show allS ((x.Segs.map (dropL [id])).filter fun l=>decide (0<(aliveS l).length))=_
 generalize x.Segs=segs at hp
 induction segs with
 | nil=>rfl
 | cons l r ih=>
  have ih:=ih fun l hl=>hp l (List.mem_cons_of_mem _ hl)
  have hl:=hp l (List.mem_cons_self ..)
  have e:aliveS (dropL [id] l)=(aliveS l).filter fun d=> !(d.Id==id):=by rw [drop_one hl,gone_alive hl]
  rw [List.map_cons,List.filter_cons]
  by_cases hc:0<(aliveS (dropL [id] l)).length
  ·rw [if_pos (decide_eq_true hc)]
   unfold allS at ih ⊢
   rw [List.flatMap_cons,List.flatMap_cons,List.filter_append,ih,e]
  ·rw [if_neg (by simpa using hc)]
   unfold allS at ih ⊢
   rw [ih,List.flatMap_cons,List.filter_append,←e,List.eq_nil_of_length_eq_zero (show (aliveS (dropL [id] l)).length=0 by omega),List.nil_append]
theorem gone_ok {x:GIndex}(h:indexS x=true)(id:Int):indexS (fullX (goneX id x))=true:=by
 have h0:=h
 have hp:=seg_p h
 obtain⟨h1,h5,hl,hs⟩:=index_parts h
 unfold indexS
 simp only [Bool.and_eq_true,decide_eq_true_eq,List.all_eq_true]
 refine⟨⟨h1,?_⟩,fun l hlm=>?_,?_⟩
 ·have:=List.length_filter_le (fun l:GLive=>decide ((l.Dead.length:Int)<(l.Seg.Docs.length:Int))) (x.Segs.map (goneL id))
  rw [List.length_map] at this
  show (((x.Segs.map (goneL id)).filter _).length:Int)≤5
  omega
 ·obtain⟨hm,hc⟩:=List.mem_filter.1 (show l∈(x.Segs.map (goneL id)).filter _ from hlm)
  obtain⟨l',hl',rfl⟩:=List.mem_map.1 hm
  have hg:=gone_p (hp l' hl') id
  have hc:=hg.count
  have hlv:=hl l' hl'
  have hs:(goneL id l').Seg=l'.Seg:=by unfold goneL;split<;>rfl
  have h16:=(live_docs hlv).2
  have hlt:(goneL id l').Dead.length<(goneL id l').Seg.Docs.length:=by
   have:=(List.mem_filter.1 (show goneL id l'∈(x.Segs.map (goneL id)).filter _ from hlm)).2
   have:=of_decide_eq_true this
   omega
  unfold liveS at hlv ⊢
  simp only [Bool.and_eq_true] at hlv ⊢
  refine⟨⟨by rw [hs];exact hlv.1.1,?_⟩,?_,decide_eq_true (by omega)⟩
  ·unfold upIS
   rw [Bool.and_eq_true,decide_eq_true_iff]
   refine⟨pairS_ofI (fun z hz=>?_) (hg.up.imp fun h=>decide_eq_true h),by rw [hs] at hlt;omega⟩
   obtain⟨d,hd,rfl⟩:=hg.has z hz
   have:=(docs_ids hg.docs).2.1 d hd
   unfold upIn
   rw [decide_eq_true (by omega),decide_eq_true (by omega)];rfl
  ·refine List.all_eq_true.2 fun z hz=>?_
   obtain⟨d,hd,rfl⟩:=hg.has z hz
   unfold hasDoc
   exact List.any_eq_true.2 ⟨d,hd,beq_self_eq_true _⟩
 ·rw [gone_all h0]
  exact sort_sub hs List.filter_sublist
theorem gone_docs {x:GIndex}(h:indexS x=true)(id:Int):idxDocs (fullX (goneX id x))=(idxDocs x).filter fun d=> !(d.Id==id):=by
 have ho:=gone_ok h id
 unfold idxDocs
 rw [if_pos h,if_pos ho,gone_all h]
 refine up_unique ((sortD_perm _).trans ((sortD_perm _).filter _).symm) (byId_sorted _) ?_
 exact(docsS_up (index_sort h).2).sublist List.filter_sublist
theorem goes_gone {l:GLive}(h:LiveP l)(id:Int):goes id (goneL id l)=false:=by
 rw [Bool.eq_false_iff]
 intro hg
 have h1:=(goes_iff (gone_p h id) id).1 hg
 unfold goneL at h1
 by_cases hq:goes id l=true
 ·rw [if_pos hq] at h1
  exact h1.2 ((putI_new h.up ((goes_iff h id).1 hq).2).1.mem_iff.2 (by simp))
 ·rw [if_neg hq] at h1
  exact hq ((goes_iff h id).2 h1)
theorem gone_again {x:GIndex}(h:indexS x=true)(id:Int):dropX (fullX (goneX id x)) id=(fullX (goneX id x),false):=by
 have hp:=seg_p h
 have ho:=gone_ok h id
 have hg: ∀l∈(fullX (goneX id x)).Segs,goes id l=false:=fun l hl=>by
  obtain⟨hm,_⟩:=List.mem_filter.1 (show l∈(x.Segs.map (goneL id)).filter _ from hl)
  obtain⟨l',hl',rfl⟩:=List.mem_map.1 hm
  exact goes_gone (hp l' hl') id
 have hk: ∀l∈(fullX (goneX id x)).Segs,decide ((l.Dead.length:Int)<(l.Seg.Docs.length:Int))=true:=fun l hl=>(List.mem_filter.1 (show l∈(x.Segs.map (goneL id)).filter _ from hl)).2
 unfold dropX
 rw [if_pos ho]
 generalize fullX (goneX id x)=y at *
 have e1:goneX id y=y:=by
  unfold goneX
  have:y.Segs.map (goneL id)=y.Segs:=by
   conv=>rhs;rw [←List.map_id y.Segs]
   refine List.map_congr_left fun l hl=>?_
   unfold goneL
   rw [hg l hl];rfl
  rw [this]
 have e2:fullX y=y:=by
  unfold fullX
  rw [List.filter_eq_self.2 hk]
 have e3:y.Segs.any (goes id)=false:=List.any_eq_false.2 fun l hl=>by rw [hg l hl];decide
 rw [e1,e2,e3]
theorem goes_any {x:GIndex}(h:indexS x=true)(id:Int):x.Segs.any (goes id)=decide ((((idxDocs x).filter fun d=> !(d.Id==id)).length:Int)<((idxDocs x).length:Int)):=by
 have hp:=seg_p h
 have hb:=filter_both (fun d:GDoc=>d.Id==id) (idxDocs x)
 have key:x.Segs.any (goes id)=true↔0<((idxDocs x).filter fun d=>d.Id==id).length:=by
  rw [List.any_eq_true,List.length_pos_iff_exists_mem]
  constructor
  ·rintro⟨l,hl,hg⟩
   obtain⟨⟨d,hd,e⟩,h2⟩:=(goes_iff (hp l hl) id).1 hg
   refine⟨d,List.mem_filter.2 ⟨?_,beq_iff_eq.2 e⟩⟩
   unfold idxDocs
   rw [if_pos h]
   exact(sortD_perm _).mem_iff.2 (List.mem_flatMap.2 ⟨l,hl,(alive_mem l d).2 ⟨hd,e▸h2⟩⟩)
  ·rintro⟨d,hd⟩
   obtain⟨hd,e⟩:=List.mem_filter.1 hd
   unfold idxDocs at hd
   rw [if_pos h] at hd
   obtain⟨l,hl,hd⟩:=List.mem_flatMap.1 ((sortD_perm _).mem_iff.1 hd)
   have:=(alive_mem l d).1 hd
   exact⟨l,hl,(goes_iff (hp l hl) id).2 ⟨⟨d,this.1,beq_iff_eq.1 e⟩,beq_iff_eq.1 e▸this.2⟩⟩
 cases ha:x.Segs.any (goes id) with
 | true=>rw [decide_eq_true (by have:=key.1 ha;omega)]
 | false=>rw [decide_eq_false (by intro hc;rw [key.2 (by omega)] at ha;cases ha)]
theorem drawIndexDrop_ok (F:Nat)(code:List UInt8)(hF:5000000<F): ∃x k,M.spec_DrawIndexDrop F code=some (x,k)∧IdxN 6 62 x:=by
 unfold M.spec_DrawIndexDrop
 obtain⟨r,hr,h1,h2⟩:=open_ok F code
 rw [hr,Option.bind_some]
 obtain⟨x,p,hx,⟨q0,q1⟩,hm⟩:=anyIdx_ok F r ⟨h1,by omega,by omega⟩ hF
 rw [hx,Option.bind_some]
 dsimp only
 obtain⟨a,ha,_,_⟩:=pick_ok F ⟨r.b_,p⟩ 10 ⟨h1,by simp only;omega,by simp only;omega⟩
 rw [ha]
 exact⟨_,_,rfl,hm⟩
theorem law_indexDrop (code:List UInt8): ∃F,M.laws_FnIndexDrop F code=some true:=by
 refine⟨10000000,?_⟩
 generalize hF:10000000=F
 unfold M.laws_FnIndexDrop
 cases decide ((1048576:Int)<(code.length:Int))
 case true=>rfl
 obtain⟨x,id,hx,hn⟩:=drawIndexDrop_ok F code (by omega)
 have hjm:IdxM 5 61 (dropX x id).1:=dropX_m hn.conf
 have hfo:=foIndex_same F (dropX x id).1 (hjm.le (by omega) (by omega)) (by omega)
 rw [cond_false,hx,Option.bind_some]
 dsimp only
 rw [impl_dropX F x id hn (by omega),Option.bind_some,spec_dropN F x id (hn.mid (by omega) (by omega)) hn.conf (by omega),Option.bind_some,beq_self_eq_true,Bool.not_true,cond_false,hfo,Option.bind_some,Bool.not_true,cond_false,hn.impl_ok F (by omega),Option.bind_some,Option.bind_some]
 cases ho:indexS x with
 | false=>rw [Bool.not_false,cond_true,cond_true,Option.bind_some,Option.bind_some]
 | true=>
  have hj:dropX x id=(fullX (goneX id x),x.Segs.any (goes id)):=by
   unfold dropX
   rw [if_pos ho]
  have hok:=gone_ok ho id
  have hds:=idxDocs_ok ho
  have h16:=(docs_ids hds).1
  rw [hj] at hjm hfo ⊢
  dsimp only at hjm hfo ⊢
  have hN:IdxN 6 62 (fullX (goneX id x)):=⟨hjm.conf,Nat.le_trans hjm.segs (by omega),fun l hl=>⟨(hjm.live l hl).docs,by have:=(hjm.live l hl).dead;omega,(hjm.live l hl).ents.le (by omega)⟩⟩
  have hflt:(idxDocs x).flatMap (fun d=>if !(d.Id==id) then [d] else [])=(idxDocs x).filter fun d=> !(d.Id==id):=flat_filterX _ _
  have hfl:((idxDocs x).filter fun d=> !(d.Id==id)).length≤16:=Nat.le_trans (List.length_filter_le ..) h16
  have hfd:DocsFit ((idxDocs x).filter fun d=> !(d.Id==id)):=by
   have:=idxDocs_fit (fullX (goneX id x))
   rwa [gone_docs ho] at this
  rw [Bool.not_true,cond_false,hn.impl_docs F (by omega),Option.bind_some]
  rw [fm_w (xs:=idxDocs x) (fun d=>if !(d.Id==id) then [d] else []) 1000 (fun acc=>acc) (fun acc i=>(acc,i)) (s0:=(([]:List GDoc),(0:Int))) rfl F (by omega) (by rw [hflt];omega) (fun i d acc hxd hB=>?_) (fun acc=>?_)]
  ·rw [hflt,Option.bind_some,Option.bind_some,impl_dropX F _ id hN (by omega),Option.bind_some,gone_again ho,←goes_any ho,beq_self_eq_true,cond_true,hN.impl_docs F (by omega),Option.bind_some,gone_docs ho,foDocs_same F _ hfd (by omega),Option.bind_some,cond_true,Bool.not_false,cond_true,hfo,Option.bind_some,cond_true,hN.impl_ok F (by omega),hok]
   rfl
  ·have hi:=(List.getElem?_eq_some_iff.1 hxd).1
   dsimp only
   rw [decide_eq_true (by omega),cond_true,getI_nat',hxd,Option.bind_some,w64_succ' (by omega)]
   cases hb:d.Id==id with
   | true=>simp
   | false=>
    rw [hb] at hB
    rw [Bool.not_false,cond_true,Option.bind_some,catLok (by simp at hB ⊢;omega)];rfl
  ·dsimp only
   rw [decide_eq_false (by omega)];rfl
end Go.Fk
