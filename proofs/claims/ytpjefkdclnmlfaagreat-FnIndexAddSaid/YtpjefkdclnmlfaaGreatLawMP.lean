import Derived.Test.YtpjefkdclnmlfaaGreatLawFin
import Derived.Test.YtpjefkdclnmlfaaGreatSortZ
/-
  Pieces that become one: the law. Of no program.
-/
set_option linter.unusedVariables false
namespace Go.Fk
open Go
theorem impl_copyLive (F:Nat)(l:GLive)(h:LiveM 10000 l)(hF:30000<F):M.impl_cloneLive F l=some l:=by
 have hd:=h.docs
 have he:=h.ents
 have h1:=he.1
 have h2:=h.dead
 unfold M.impl_cloneLive
 rw [impl_clones F l.Seg.Docs hd,Option.bind_some,catLok (by simp only [List.length_nil];omega),List.nil_append,Option.bind_some,Option.bind_some]
 have key:=forE_run' (σ:=GLive) (f:=fun (i1290:Nat) (s1286:GLive)=>((getI l.Seg.Entries ((i1290:Nat):Int)).bind fun x1312=>((((forE (fun (i1354:Nat) (s1350:(List GPost))=>((getI x1312.Posts ((i1354:Nat):Int)).bind fun x1372=>((catL 8 [] x1372.At).bind fun x1400=>((catL 32 s1350 ([(GPost.mk x1372.Doc x1400)]:List GPost)).bind fun x1418=>(some x1418))))) x1312.Posts.length 0 []).bind fun s1350=>(some s1350)):Option (List GPost)).bind fun o1339=>((catL 56 s1286.Seg.Entries ([(GEntry.mk x1312.Field x1312.Term o1339)]:List GEntry)).bind fun x1443=>(some (GLive.mk (GSeg.mk s1286.Seg.Docs x1443) s1286.Dead))))))
  (fun i s=>s=⟨⟨l.Seg.Docs,l.Seg.Entries.take i⟩,l.Dead⟩) l.Seg.Entries.length (fun i s hi hs=>by
   subst hs
   have hp:=he.2 _ (List.getElem_mem hi)
   have h4:=List.length_take_le i l.Seg.Entries
   obtain⟨t,ht,hq⟩:=forE_run' (σ:=List GPost) (f:=fun (i1354:Nat) (s1350:(List GPost))=>((getI l.Seg.Entries[i].Posts ((i1354:Nat):Int)).bind fun x1372=>((catL 8 [] x1372.At).bind fun x1400=>((catL 32 s1350 ([(GPost.mk x1372.Doc x1400)]:List GPost)).bind fun x1418=>(some x1418)))))
    (fun j s=>s=l.Seg.Entries[i].Posts.take j) l.Seg.Entries[i].Posts.length (fun j s hj hs=>by
     subst hs
     have hpp:=hp.2 _ (List.getElem_mem hj)
     have h5:=List.length_take_le j l.Seg.Entries[i].Posts
     have h6:=hp.1
     refine⟨_,?_,rfl⟩
     rw [getI_at hj,Option.bind_some,catLok (by simp only [List.length_nil];omega),List.nil_append,Option.bind_some,catLok (by simp only [List.length_cons,List.length_nil];omega),Option.bind_some,List.take_succ_eq_append_getElem hj]) l.Seg.Entries[i].Posts.length 0 [] (by omega) (by rw [List.take_zero])
   refine⟨_,?_,rfl⟩
   rw [getI_at hi,Option.bind_some,ht,hq,List.take_length,Option.bind_some,Option.bind_some,catLok (by simp only [List.length_cons,List.length_nil];omega),Option.bind_some,List.take_succ_eq_append_getElem hi]
   ) l.Seg.Entries.length 0 ⟨⟨l.Seg.Docs,[]⟩,l.Dead⟩ (by omega) (by rw [List.take_zero])
 obtain⟨t,ht,hp⟩:=key
 rw [ht,hp,List.take_length]
 rfl
theorem impl_copyX (F:Nat)(x:GIndex)(h:IdxM 1000 10000 x)(hF:30000<F):M.impl_cloneIndex F x=some x:=by
 have h2:=h.segs
 unfold M.impl_cloneIndex
 rw [impl_cloneConf F x.Conf h.conf,Option.bind_some]
 have key:=forE_run' (σ:=GIndex) (f:=fun (i72:Nat) (s68:GIndex)=>((getI x.Segs ((i72:Nat):Int)).bind fun x97=>((M.impl_cloneLive F x97).bind fun r126=>((catL 72 s68.Segs ([r126]:List GLive)).bind fun x153=>(some (GIndex.mk s68.Conf x153))))))
  (fun i s=>s=⟨x.Conf,x.Segs.take i⟩) x.Segs.length (fun i s hi hs=>by
   subst hs
   have hl:=h.live _ (List.getElem_mem hi)
   have h4:=List.length_take_le i x.Segs
   refine⟨_,?_,rfl⟩
   rw [getI_at hi,Option.bind_some,impl_copyLive F _ hl (by omega),Option.bind_some,catLok (by simp only [List.length_cons,List.length_nil];omega),Option.bind_some,List.take_succ_eq_append_getElem hi]
   ) x.Segs.length 0 ⟨x.Conf,[]⟩ (by omega) (by rw [List.take_zero])
 obtain⟨t,ht,hp⟩:=key
 rw [ht,hp,List.take_length]
 rfl
theorem foIndex_same (F:Nat)(x:GIndex)(h:IdxM 1000 10000 x)(hF:20000<F):M.laws_foIndex F x x=some true:=by
 have h2:=h.segs
 unfold M.laws_foIndex
 rw [foConf_same F _ h.conf (by omega),Option.bind_some,Bool.not_true,cond_false,beq_self_eq_true,Bool.not_true,Option.bind_some,cond_false,clean0' (n:=x.Segs.length) F (by omega) (fun i hi=>?_) ?_]
 ·rfl
 ·rw [decide_eq_false (by omega)];rfl
 ·have hl:=h.live _ (List.getElem_mem hi)
  rw [decide_eq_true (by omega),cond_true,getI_at hi,Option.bind_some,Option.bind_some]
  unfold M.laws_foLive
  rw [foSeg_same F _ hl.docs hl.ents (by omega),Option.bind_some,cond_true,foInts_same F _ (by have:=hl.dead;omega) (by have:=hl.dead;omega),w64_succ' (by omega)]
  rfl
theorem alive_new (c:GConf)(ds:List GDoc):aliveS ⟨segS c ds,[]⟩=ds:=by
 unfold aliveS
 exact List.filter_eq_self.2 fun d _=>rfl
theorem allS_append (a b:List GLive):allS (a++b)=allS a++allS b:=by
 unfold allS
 rw [List.flatMap_append]
end Go.Fk
set_option linter.unusedVariables false
namespace Go.Fk
open Go
theorem int_unique {xs ys:List Int}(hp:xs.Perm ys)(hx:xs.Pairwise (· ≤ ·))(hy:ys.Pairwise (· ≤ ·)):xs=ys:=
 List.Perm.eq_of_pairwise (le:=fun a b:Int=>a≤b) (fun a b _ _ h1 h2=>by omega) hx hy hp
theorem sortZ_up (xs:List Int):(sortZ xs).Pairwise (· ≤ ·):=by
 have:=List.pairwise_mergeSort (le:=fun x y:Int=>decide (x≤y)) (fun a b c h1 h2=>by simp only [decide_eq_true_eq] at *;omega) (fun a b=>by simp only [Bool.or_eq_true,decide_eq_true_eq];omega) xs
 exact this.imp fun h=>by simpa using h
theorem sortZ_perm (xs:List Int):(sortZ xs).Perm xs:=List.mergeSort_perm ..
theorem cutI_lt (n:Int): ∀(xs:List Int),∀x∈xs.take (cutI n xs),x<n
 | [],x,h=>by cases h
 | y::r,x,h=>by
  unfold cutI at h
  split at h
  ·rename_i hy
   rw [List.take_succ_cons] at h
   rcases List.mem_cons.1 h with rfl | h
   ·exact hy
   ·exact cutI_lt n r x h
  ·cases h
theorem cutI_ge (n:Int): ∀(xs:List Int),xs.Pairwise (· < ·)→∀x∈xs.drop (cutI n xs),n≤x
 | [],_,x,h=>by cases h
 | y::r,hp,x,h=>by
  rw [List.pairwise_cons] at hp
  unfold cutI at h
  split at h
  ·rw [List.drop_succ_cons] at h
   exact cutI_ge n r hp.2 x h
  ·rename_i hy
   rw [List.drop_zero] at h
   rcases List.mem_cons.1 h with rfl | h
   ·omega
   ·have:=hp.1 x h;omega
theorem putI_new {n:Int}{xs:List Int}(hp:xs.Pairwise (· < ·))(hn:n∉xs):(putI n xs).Perm (xs++[n])∧(putI n xs).Pairwise (· < ·):=by
 have hm:putI n xs=xs.take (cutI n xs)++[n]++xs.drop (cutI n xs):=putI_miss fun v hv=>beq_eq_false_iff_ne.2 fun e=>hn (e▸List.mem_of_getElem? hv)
 rw [hm]
 refine⟨?_,?_⟩
 ·have h1:(xs.take (cutI n xs)++[n]++xs.drop (cutI n xs)).Perm (xs.take (cutI n xs)++(xs.drop (cutI n xs)++[n])):=by
   rw [List.append_assoc];exact List.Perm.append_left _ List.perm_append_comm
  rwa [←List.append_assoc,List.take_append_drop] at h1
 ·have hsp:=hp
  rw [←List.take_append_drop (cutI n xs) xs,List.pairwise_append] at hsp
  rw [List.append_assoc,List.pairwise_append]
  refine⟨hsp.1,?_,fun a ha b hb=>?_⟩
  ·refine List.pairwise_cons.2 ⟨fun b hb=>?_,hsp.2.1⟩
   have:=cutI_ge n xs hp b hb
   have:n≠b:=fun e=>hn (e▸List.mem_of_mem_drop hb)
   omega
  ·rcases List.mem_cons.1 hb with rfl | hb
   ·exact cutI_lt b xs a ha
   ·exact hsp.2.2 a ha b hb
def hitL (ids:List Int)(l:GLive):List GDoc:=(aliveS l).filter fun d=>ids.any fun x=>d.Id==x
def dropL (ids:List Int)(l:GLive):GLive:=⟨l.Seg,sortZ (l.Dead++(hitL ids l).map (·.Id))⟩
structure LiveP (l:GLive):Prop where
 docs:docsS l.Seg.Docs=true
 up:l.Dead.Pairwise (· < ·)
 has: ∀z∈l.Dead,∃d∈l.Seg.Docs,d.Id=z
theorem live_p {c:GConf}{l:GLive}(h:liveS c l=true):LiveP l:=by
 have hd:=live_docs h
 unfold liveS at h
 simp only [Bool.and_eq_true] at h
 have hu:=h.1.2
 unfold upIS at hu
 rw [Bool.and_eq_true] at hu
 refine⟨hd.1,ups_pair hu.1,fun z hz=>?_⟩
 have:=List.all_eq_true.1 h.2.1 z hz
 unfold hasDoc at this
 obtain⟨x,hx,e⟩:=List.any_eq_true.1 this
 exact⟨x,hx,beq_iff_eq.1 e⟩
theorem LiveP.count {l:GLive}(h:LiveP l):(aliveS l).length+l.Dead.length=l.Seg.Docs.length:=by
 have:=split_len (ids_nodup h.docs) (h.up.imp fun h e=>by omega :l.Dead.Nodup) fun z hz=>by
  obtain⟨x,hx,e⟩:=h.has z hz
  exact List.mem_map.2 ⟨x,hx,e⟩
 rw [List.length_map,List.filter_map,List.length_map] at this
 exact this
theorem dead_any (l:GLive)(d:GDoc):deadIn l d=true↔d.Id∈l.Dead:=by
 unfold deadIn
 rw [List.any_eq_true]
 exact⟨fun⟨x,hx,e⟩=>by rw [beq_iff_eq.1 e];exact hx,fun h=>⟨_,h,beq_self_eq_true _⟩⟩
theorem goes_iff {l:GLive}(h:LiveP l)(id:Int):goes id l=true↔(∃d∈l.Seg.Docs,d.Id=id)∧id∉l.Dead:=by
 unfold goes
 rw [has_same h.docs,Bool.and_eq_true]
 unfold hasDoc
 rw [List.any_eq_true]
 constructor
 ·rintro⟨⟨d,hd,e⟩,h2⟩
  refine⟨⟨d,hd,beq_iff_eq.1 e⟩,fun hm=>?_⟩
  have:(l.Dead.any fun x=>id==x)=true:=List.any_eq_true.2 ⟨id,hm,beq_self_eq_true _⟩
  rw [this] at h2;cases h2
 ·rintro⟨⟨d,hd,e⟩,h2⟩
  refine⟨⟨d,hd,beq_iff_eq.2 e⟩,?_⟩
  cases ha:l.Dead.any fun x=>id==x with
  | false=>rfl
  | true=>
   obtain⟨x,hx,e⟩:=List.any_eq_true.1 ha
   exact absurd (beq_iff_eq.1 e▸hx) h2
theorem alive_mem (l:GLive)(d:GDoc):d∈aliveS l↔d∈l.Seg.Docs∧d.Id∉l.Dead:=by
 unfold aliveS
 rw [List.mem_filter,←dead_any]
 cases deadIn l d<;>simp
theorem gone_p {l:GLive}(h:LiveP l)(id:Int):LiveP (goneL id l):=by
 unfold goneL
 by_cases hg:goes id l=true
 ·rw [if_pos hg]
  obtain⟨h1,h2⟩:=(goes_iff h id).1 hg
  have hp:=putI_new h.up h2
  refine⟨h.docs,hp.2,fun z hz=>?_⟩
  rcases List.mem_append.1 (hp.1.mem_iff.1 hz) with hz | hz
  ·exact h.has z hz
  ·rcases List.mem_singleton.1 hz with rfl
   exact h1
 ·rw [if_neg hg];exact h
end Go.Fk
set_option linter.unusedVariables false
namespace Go.Fk
open Go
theorem impl_alive_ar (F:Nat)(l:GLive)(hd:l.Seg.Docs.length≤1048576):M.impl_Live_alive__ar F l=some (aliveS l):=impl_alive F l hd
theorem drop_inner (F:Nat)(ids:List Int)(l:GLive)(n:Nat)(hn:n≤1000000)(ha:(aliveS l).length≤1000)(hd:l.Dead.length≤10000):
  forE (fun (i125:Nat) (s121:Int×GLive)=>((getI (aliveS l) ((i125:Nat):Int)).bind fun x154=>((M.slices_Contains_int F ids x154.Id).bind fun r178=>(cond r178 ((catL 8 s121.2.Dead ([x154.Id]:List Int)).bind fun x195=>(some ((w64 (s121.1+1)),(GLive.mk s121.2.Seg x195)))) (some (s121.1,s121.2)))))) (aliveS l).length 0 ((n:Int),l)
   =some (((n+(hitL ids l).length:Nat):Int),⟨l.Seg,l.Dead++(hitL ids l).map (·.Id)⟩):=by
 obtain⟨t,ht,hp⟩:=forE_run' (σ:=Int×GLive) (f:=fun (i125:Nat) (s121:Int×GLive)=>((getI (aliveS l) ((i125:Nat):Int)).bind fun x154=>((M.slices_Contains_int F ids x154.Id).bind fun r178=>(cond r178 ((catL 8 s121.2.Dead ([x154.Id]:List Int)).bind fun x195=>(some ((w64 (s121.1+1)),(GLive.mk s121.2.Seg x195)))) (some (s121.1,s121.2))))))
  (fun i s=>s=(((n+(((aliveS l).take i).filter fun d=>ids.any fun x=>d.Id==x).length:Nat):Int),⟨l.Seg,l.Dead++(((aliveS l).take i).filter fun d=>ids.any fun x=>d.Id==x).map (·.Id)⟩)) (aliveS l).length (fun i s hi hs=>by
   subst hs
   have h4:=List.length_take_le i (aliveS l)
   have h5:=List.length_filter_le (fun d:GDoc=>ids.any fun x=>d.Id==x) ((aliveS l).take i)
   refine⟨_,?_,rfl⟩
   dsimp only
   rw [getI_at hi,Option.bind_some,contains_id,Option.bind_some,List.take_succ_eq_append_getElem hi,List.filter_append,List.filter_cons,List.filter_nil]
   cases ids.any fun x=>(aliveS l)[i].Id==x with
   | true=>
    rw [cond_true,catLok (by simp only [List.length_append,List.length_map,List.length_singleton];omega),Option.bind_some,w64_succ' (by omega)]
    simp [Nat.add_assoc]
   | false=>simp) (aliveS l).length 0 ((n:Int),l) (by omega) (by rw [List.take_zero];simp)
 rw [ht,hp,List.take_length]
 rfl
def manyL (ids:List Int)(segs:List GLive):Nat:=(segs.map fun l=>(hitL ids l).length).sum
theorem impl_drop (F:Nat)(x:GIndex)(ids:List Int)(h:IdxM 1000 9000 x)(hs: ∀l∈x.Segs,(aliveS l).length≤100):M.impl_Index_drop F x ids=some (((manyL ids x.Segs:Nat):Int),⟨x.Conf,(x.Segs.map (dropL ids)).filter fun l=>decide (0<(aliveS l).length)⟩):=by
 have h2:=h.segs
 unfold M.impl_Index_drop
 obtain⟨t,ht,hp⟩:=forE_run' (σ:=Int×List GLive) (f:=fun (i40:Nat) (s36:Int×(List GLive))=>((getI x.Segs ((i40:Nat):Int)).bind fun x55=>((M.impl_Live_alive__ar F x55).bind fun r86=>((((forE (fun (i125:Nat) (s121:Int×GLive)=>((getI r86 ((i125:Nat):Int)).bind fun x154=>((M.slices_Contains_int F ids x154.Id).bind fun r178=>(cond r178 ((catL 8 s121.2.Dead ([x154.Id]:List Int)).bind fun x195=>(some ((w64 (s121.1+1)),(GLive.mk s121.2.Seg x195)))) (some (s121.1,s121.2)))))) r86.length 0 (s36.1,x55)).bind fun s121=>(some (s121.1,s121.2))):Option (Int×GLive)).bind fun o99=>((sortZO o99.2.Dead).bind fun x217=>((M.impl_Live_alive__ar F (GLive.mk o99.2.Seg x217)).bind fun r226=>(cond (decide (0<(r226.length:Int))) ((catL 72 s36.2 ([(GLive.mk o99.2.Seg x217)]:List GLive)).bind fun x252=>(some (o99.1,x252))) (some (o99.1,s36.2)))))))))
  (fun i s=>s=(((manyL ids (x.Segs.take i):Nat):Int),((x.Segs.take i).map (dropL ids)).filter fun l=>decide (0<(aliveS l).length))∧manyL ids (x.Segs.take i)≤100*i) x.Segs.length (fun i s hi hs'=>by
   obtain⟨hs',hb⟩:=hs'
   subst hs'
   have hl:=h.live _ (List.getElem_mem hi)
   have ha:=hs _ (List.getElem_mem hi)
   have hd:=hl.docs.few
   have h4:=List.length_take_le i x.Segs
   have hh:(hitL ids x.Segs[i]).length≤(aliveS x.Segs[i]).length:=List.length_filter_le ..
   have h5:=List.length_filter_le (fun l:GLive=>decide (0<(aliveS l).length)) ((x.Segs.take i).map (dropL ids))
   rw [List.length_map] at h5
   have e1:manyL ids (x.Segs.take (i+1))=manyL ids (x.Segs.take i)+(hitL ids x.Segs[i]).length:=by
    unfold manyL
    rw [List.take_succ_eq_append_getElem hi,List.map_append,List.sum_append];simp
   have hdd:=hl.dead
   refine⟨_,?_,rfl,by rw [e1];omega⟩
   dsimp only
   have hsz:sortZO (x.Segs[i].Dead++(hitL ids x.Segs[i]).map (·.Id))=some (sortZ (x.Segs[i].Dead++(hitL ids x.Segs[i]).map (·.Id))):=if_pos (by simp only [List.length_append,List.length_map];omega)
   rw [getI_at hi,Option.bind_some,impl_alive_ar F _ (by omega),Option.bind_some,drop_inner F ids _ _ (by omega) (by omega) (by omega),Option.bind_some,Option.bind_some]
   dsimp only
   rw [hsz,Option.bind_some,impl_alive_ar F _ (by show x.Segs[i].Seg.Docs.length≤_;omega),Option.bind_some,e1,List.take_succ_eq_append_getElem hi,List.map_append,List.filter_append,List.map_cons,List.map_nil,List.filter_cons,List.filter_nil]
   show (cond (decide ((0:Int)<((aliveS (dropL ids x.Segs[i])).length:Int))) _ _)=_
   by_cases hc:0<(aliveS (dropL ids x.Segs[i])).length
   ·rw [decide_eq_true (by omega),cond_true,catLok (by simp only [List.length_singleton];omega),Option.bind_some,if_pos (decide_eq_true hc)];rfl
   ·rw [decide_eq_false (by omega),cond_false,if_neg (by simpa using hc),List.append_nil]) x.Segs.length 0 ((0:Int),[]) (by omega) ⟨by rw [List.take_zero];rfl,by rw [List.take_zero];exact Nat.le_refl _⟩
 rw [ht,hp.1,List.take_length]
 rfl
theorem seg_p {x:GIndex}(h:indexS x=true): ∀l∈x.Segs,LiveP l:=fun l hl=>live_p ((index_parts h).2.2.1 l hl)
end Go.Fk
set_option linter.unusedVariables false
namespace Go.Fk
open Go
def goneAll (ids:List Int)(l:GLive):GLive:=ids.foldl (fun l id=>goneL id l) l
theorem goneAll_p: ∀(ids:List Int) {l:GLive},LiveP l→LiveP (goneAll ids l)
 | [],_,h=>h
 | id::r,l,h=>goneAll_p r (gone_p h id)
theorem goneL_seg (id:Int)(l:GLive):(goneL id l).Seg=l.Seg:=by unfold goneL;split<;>rfl
theorem goneAll_seg: ∀(ids:List Int) (l:GLive),(goneAll ids l).Seg=l.Seg
 | [],_=>rfl
 | id::r,l=>(goneAll_seg r (goneL id l)).trans (goneL_seg id l)
theorem goneL_dead {l:GLive}(h:LiveP l)(id z:Int):z∈(goneL id l).Dead↔z∈l.Dead∨(z=id∧∃d∈l.Seg.Docs,d.Id=z):=by
 unfold goneL
 by_cases hg:goes id l=true
 ·rw [if_pos hg]
  obtain⟨h1,h2⟩:=(goes_iff h id).1 hg
  show z∈putI id l.Dead↔_
  rw [(putI_new h.up h2).1.mem_iff,List.mem_append,List.mem_singleton]
  constructor
  ·rintro (hz | rfl)
   ·exact .inl hz
   ·exact .inr ⟨rfl,h1⟩
  ·rintro (hz | ⟨rfl,_⟩)
   ·exact .inl hz
   ·exact .inr rfl
 ·rw [if_neg hg]
  constructor
  ·exact .inl
  ·rintro (hz | ⟨rfl,hd⟩)
   ·exact hz
   ·refine Classical.byContradiction fun hn=>hg ((goes_iff h z).2 ⟨hd,hn⟩)
theorem goneAll_dead: ∀(ids:List Int) {l:GLive},LiveP l→∀z,z∈(goneAll ids l).Dead↔z∈l.Dead∨(z∈ids∧∃d∈l.Seg.Docs,d.Id=z)
 | [],l,h,z=>by
  show z∈l.Dead↔_
  simp
 | id::r,l,h,z=>by
  show z∈(goneAll r (goneL id l)).Dead↔_
  rw [goneAll_dead r (gone_p h id) z,goneL_dead h,goneL_seg,List.mem_cons]
  constructor
  ·rintro ((h1 | ⟨h1,h2⟩) | ⟨h1,h2⟩)
   ·exact .inl h1
   ·exact .inr ⟨.inl h1,h2⟩
   ·exact .inr ⟨.inr h1,h2⟩
  ·rintro (h1 | ⟨h1 | h1,h2⟩)
   ·exact .inl (.inl h1)
   ·exact .inl (.inr ⟨h1,h2⟩)
   ·exact .inr ⟨h1,h2⟩
theorem any_mem (ids:List Int)(n:Int):(ids.any fun x=>n==x)=true↔n∈ids:=by
 rw [List.any_eq_true]
 exact⟨fun⟨x,hx,e⟩=>beq_iff_eq.1 e▸hx,fun h=>⟨n,h,beq_self_eq_true _⟩⟩
theorem drop_many {l:GLive}(h:LiveP l)(ids:List Int):dropL ids l=goneAll ids l:=by
 have hp:=goneAll_p ids h
 have hnd:l.Dead.Nodup:=h.up.imp fun h e=>by omega
 have hnh:((hitL ids l).map (·.Id)).Nodup:=(List.Sublist.map _ ((List.filter_sublist ..).trans (List.filter_sublist ..))).nodup (ids_nodup h.docs)
 have hmem: ∀z,z∈(hitL ids l).map (·.Id)↔(z∈ids∧∃d∈l.Seg.Docs,d.Id=z)∧z∉l.Dead:=fun z=>by
  rw [List.mem_map]
  unfold hitL
  constructor
  ·rintro⟨d,hd,rfl⟩
   obtain⟨hd,ha⟩:=List.mem_filter.1 hd
   have:=(alive_mem l d).1 hd
   exact⟨⟨(any_mem ids d.Id).1 ha,d,this.1,rfl⟩,this.2⟩
  ·rintro⟨⟨hi,d,hd,rfl⟩,hn⟩
   exact⟨d,List.mem_filter.2 ⟨(alive_mem l d).2 ⟨hd,hn⟩,(any_mem ids d.Id).2 hi⟩,rfl⟩
 have hn:(l.Dead++(hitL ids l).map (·.Id)).Nodup:=List.nodup_append.2 ⟨hnd,hnh,fun a ha b hb e=>((hmem b).1 hb).2 (e▸ha)⟩
 have hperm:(l.Dead++(hitL ids l).map (·.Id)).Perm (goneAll ids l).Dead:=(List.perm_ext_iff_of_nodup hn (hp.up.imp fun h e=>by omega)).2 fun z=>by
  rw [List.mem_append,hmem,goneAll_dead ids h]
  constructor
  ·rintro (h1 | ⟨h1,_⟩)
   ·exact .inl h1
   ·exact .inr h1
  ·rintro (h1 | h1)
   ·exact .inl h1
   ·by_cases hz:z∈l.Dead
    ·exact .inl hz
    ·exact .inr ⟨h1,hz⟩
 have e:sortZ (l.Dead++(hitL ids l).map (·.Id))=(goneAll ids l).Dead:=int_unique ((sortZ_perm _).trans hperm) (sortZ_up _) (hp.up.imp fun h=>by omega)
 unfold dropL
 rw [e,←goneAll_seg ids l]
theorem goneX_all: ∀(docs:List GDoc) (x:GIndex),docs.foldl (fun y d=>goneX d.Id y) x=⟨x.Conf,x.Segs.map (goneAll (docs.map (·.Id)))⟩
 | [],x=>by
  show x=⟨x.Conf,x.Segs.map fun l=>l⟩
  rw [List.map_id']
 | d::r,x=>by
  rw [List.foldl_cons,goneX_all r]
  unfold goneX
  rw [List.map_map]
  rfl
theorem drop_all {x:GIndex}(h:indexS x=true)(docs:List GDoc):(x.Segs.map (dropL (docs.map (·.Id)))).filter (fun l=>decide (0<(aliveS l).length))=(fullX (docs.foldl (fun y d=>goneX d.Id y) x)).Segs:=by
 have hp:=seg_p h
 rw [goneX_all]
 unfold fullX
 have e1:x.Segs.map (dropL (docs.map (·.Id)))=x.Segs.map (goneAll (docs.map (·.Id))):=List.map_congr_left fun l hl=>drop_many (hp l hl) _
 rw [e1]
 refine List.filter_congr fun l hl=>?_
 obtain⟨l',hl',rfl⟩:=List.mem_map.1 hl
 have:=(goneAll_p (docs.map (·.Id)) (hp l' hl')).count
 exact decide_eq_decide.2 (by omega)
theorem goneAll_alive {l:GLive}(h:LiveP l)(ids:List Int):aliveS (goneAll ids l)=(aliveS l).filter fun d=> !(ids.any fun x=>d.Id==x):=by
 unfold aliveS
 rw [goneAll_seg,List.filter_filter]
 refine List.filter_congr fun d hd=>?_
 have h1:deadIn (goneAll ids l) d=true↔deadIn l d=true∨(ids.any fun x=>d.Id==x)=true:=by
  rw [dead_any,dead_any,goneAll_dead ids h,any_mem]
  exact⟨fun h=>h.imp id fun h=>h.1,fun h=>h.imp id fun h=>⟨h,d,hd,rfl⟩⟩
 cases ha:deadIn l d with
 | true=>rw [h1.2 (.inl ha)];simp
 | false=>
  cases hb:ids.any fun x=>d.Id==x with
  | true=>rw [h1.2 (.inr hb)];rfl
  | false=>
   have:deadIn (goneAll ids l) d=false:=by
    rw [Bool.eq_false_iff]
    intro hc
    rcases h1.1 hc with h | h
    ·rw [ha] at h;cases h
    ·rw [hb] at h;cases h
   rw [this];rfl
theorem all_gone {x:GIndex}(h:indexS x=true)(docs:List GDoc):allS (fullX (docs.foldl (fun y d=>goneX d.Id y) x)).Segs=(allS x.Segs).filter fun d=> !((docs.map (·.Id)).any fun z=>d.Id==z):=by
 have hp:=seg_p h
 rw [←drop_all h]
 generalize x.Segs=segs at hp
 generalize docs.map (·.Id)=ids
 induction segs with
 | nil=>rfl
 | cons l r ih=>
  have ih:=ih fun l hl=>hp l (List.mem_cons_of_mem _ hl)
  have hl:=hp l (List.mem_cons_self ..)
  have e:aliveS (dropL ids l)=(aliveS l).filter fun d=> !(ids.any fun x=>d.Id==x):=by rw [drop_many hl,goneAll_alive hl]
  rw [List.map_cons,List.filter_cons]
  by_cases hc:0<(aliveS (dropL ids l)).length
  ·rw [if_pos (decide_eq_true hc)]
   unfold allS at ih ⊢
   rw [List.flatMap_cons,List.flatMap_cons,List.filter_append,ih,e]
  ·rw [if_neg (by simpa using hc)]
   unfold allS at ih ⊢
   rw [ih,List.flatMap_cons,List.filter_append,←e,List.eq_nil_of_length_eq_zero (show (aliveS (dropL ids l)).length=0 by omega),List.nil_append]
theorem add_docs {x:GIndex}{docs:List GDoc}(h:indexS x=true):allS (addZ x docs).Segs=((allS x.Segs).filter fun d=> !((docs.map (·.Id)).any fun z=>d.Id==z))++docs:=by
 unfold addZ
 dsimp only
 rw [allS_append,all_gone h]
 unfold allS
 rw [List.flatMap_cons,List.flatMap_nil,List.append_nil,alive_new]
end Go.Fk
