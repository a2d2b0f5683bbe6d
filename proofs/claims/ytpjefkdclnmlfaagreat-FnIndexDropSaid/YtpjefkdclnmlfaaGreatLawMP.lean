import Derived.Test.YtpjefkdclnmlfaaGreatLawFin
import Derived.Test.YtpjefkdclnmlfaaGreatSortZ
/-
  Pieces that become one: the law. Of no program.
-/
set_option linter.unusedVariables false
namespace Go.Fk
open Go
theorem impl_copyLive (F:Nat)(l:GLive)(h:LiveM 10000 l)(hF:30000<F):M.impl_cloneLive F l=some l:=by
 have hd:=h.docs
 have he:=h.ents
 have h1:=he.1
 have h2:=h.dead
 unfold M.impl_cloneLive
 rw [impl_clones F l.Seg.Docs hd,Option.bind_some,catLok (by simp only [List.length_nil];omega),List.nil_append,Option.bind_some,Option.bind_some]
 have key:=forE_run' (σ:=GLive) (f:=fun (i1290:Nat) (s1286:GLive)=>((getI l.Seg.Entries ((i1290:Nat):Int)).bind fun x1312=>((((forE (fun (i1354:Nat) (s1350:(List GPost))=>((getI x1312.Posts ((i1354:Nat):Int)).bind fun x1372=>((catL 8 [] x1372.At).bind fun x1400=>((catL 32 s1350 ([(GPost.mk x1372.Doc x1400)]:List GPost)).bind fun x1418=>(some x1418))))) x1312.Posts.length 0 []).bind fun s1350=>(some s1350)):Option (List GPost)).bind fun o1339=>((catL 56 s1286.Seg.Entries ([(GEntry.mk x1312.Field x1312.Term o1339)]:List GEntry)).bind fun x1443=>(some (GLive.mk (GSeg.mk s1286.Seg.Docs x1443) s1286.Dead))))))
  (fun i s=>s=⟨⟨l.Seg.Docs,l.Seg.Entries.take i⟩,l.Dead⟩) l.Seg.Entries.length (fun i s hi hs=>by
   subst hs
   have hp:=he.2 _ (List.getElem_mem hi)
   have h4:=List.length_take_le i l.Seg.Entries
   obtain⟨t,ht,hq⟩:=forE_run' (σ:=List GPost) (f:=fun (i1354:Nat) (s1350:(List GPost))=>((getI l.Seg.Entries[i].Posts ((i1354:Nat):Int)).bind fun x1372=>((catL 8 [] x1372.At).bind fun x1400=>((catL 32 s1350 ([(GPost.mk x1372.Doc x1400)]:List GPost)).bind fun x1418=>(some x1418)))))
    (fun j s=>s=l.Seg.Entries[i].Posts.take j) l.Seg.Entries[i].Posts.length (fun j s hj hs=>by
     subst hs
     have hpp:=hp.2 _ (List.getElem_mem hj)
     have h5:=List.length_take_le j l.Seg.Entries[i].Posts
     have h6:=hp.1
     refine⟨_,?_,rfl⟩
     rw [getI_at hj,Option.bind_some,catLok (by simp only [List.length_nil];omega),List.nil_append,Option.bind_some,catLok (by simp only [List.length_cons,List.length_nil];omega),Option.bind_some,List.take_succ_eq_append_getElem hj]) l.Seg.Entries[i].Posts.length 0 [] (by omega) (by rw [List.take_zero])
   refine⟨_,?_,rfl⟩
   rw [getI_at hi,Option.bind_some,ht,hq,List.take_length,Option.bind_some,Option.bind_some,catLok (by simp only [List.length_cons,List.length_nil];omega),Option.bind_some,List.take_succ_eq_append_getElem hi]
   ) l.Seg.Entries.length 0 ⟨⟨l.Seg.Docs,[]⟩,l.Dead⟩ (by omega) (by rw [List.take_zero])
 obtain⟨t,ht,hp⟩:=key
 rw [ht,hp,List.take_length]
 rfl
theorem impl_copyX (F:Nat)(x:GIndex)(h:IdxM 1000 10000 x)(hF:30000<F):M.impl_cloneIndex F x=some x:=by
 have h2:=h.segs
 unfold M.impl_cloneIndex
 rw [impl_cloneConf F x.Conf h.conf,Option.bind_some]
 have key:=forE_run' (σ:=GIndex) (f:=fun (i72:Nat) (s68:GIndex)=>((getI x.Segs ((i72:Nat):Int)).bind fun x97=>((M.impl_cloneLive F x97).bind fun r126=>((catL 72 s68.Segs ([r126]:List GLive)).bind fun x153=>(some (GIndex.mk s68.Conf x153))))))
  (fun i s=>s=⟨x.Conf,x.Segs.take i⟩) x.Segs.length (fun i s hi hs=>by
   subst hs
   have hl:=h.live _ (List.getElem_mem hi)
   have h4:=List.length_take_le i x.Segs
   refine⟨_,?_,rfl⟩
   rw [getI_at hi,Option.bind_some,impl_copyLive F _ hl (by omega),Option.bind_some,catLok (by simp only [List.length_cons,List.length_nil];omega),Option.bind_some,List.take_succ_eq_append_getElem hi]
   ) x.Segs.length 0 ⟨x.Conf,[]⟩ (by omega) (by rw [List.take_zero])
 obtain⟨t,ht,hp⟩:=key
 rw [ht,hp,List.take_length]
 rfl
theorem foIndex_same (F:Nat)(x:GIndex)(h:IdxM 1000 10000 x)(hF:20000<F):M.laws_foIndex F x x=some true:=by
 have h2:=h.segs
 unfold M.laws_foIndex
 rw [foConf_same F _ h.conf (by omega),Option.bind_some,Bool.not_true,cond_false,beq_self_eq_true,Bool.not_true,Option.bind_some,cond_false,clean0' (n:=x.Segs.length) F (by omega) (fun i hi=>?_) ?_]
 ·rfl
 ·rw [decide_eq_false (by omega)];rfl
 ·have hl:=h.live _ (List.getElem_mem hi)
  rw [decide_eq_true (by omega),cond_true,getI_at hi,Option.bind_some,Option.bind_some]
  unfold M.laws_foLive
  rw [foSeg_same F _ hl.docs hl.ents (by omega),Option.bind_some,cond_true,foInts_same F _ (by have:=hl.dead;omega) (by have:=hl.dead;omega),w64_succ' (by omega)]
  rfl
end Go.Fk
set_option linter.unusedVariables false
namespace Go.Fk
open Go
theorem hit_self {xs:List GDoc}(id:Int):(xs.filter fun d=>id==d.Id).map (·.Id)=(xs.map (·.Id)).filter fun z=>id==z:=by rw [List.filter_map];rfl
theorem filter_one {zs:List Int}(hn:zs.Nodup)(id:Int):zs.filter (fun z=>id==z)=if id∈zs then [id] else []:=by
 induction zs with
 | nil=>rfl
 | cons z r ih=>
  rw [List.nodup_cons] at hn
  rw [List.filter_cons,ih hn.2]
  by_cases h:id=z
  ·subst h
   rw [if_pos (by simp),if_neg hn.1,if_pos (List.mem_cons_self ..)]
  ·rw [if_neg (by simpa using h)]
   by_cases h2:id∈r
   ·rw [if_pos h2,if_pos (List.mem_cons_of_mem _ h2)]
   ·rw [if_neg h2,if_neg (by simp [h,h2])]
theorem int_unique {xs ys:List Int}(hp:xs.Perm ys)(hx:xs.Pairwise (· ≤ ·))(hy:ys.Pairwise (· ≤ ·)):xs=ys:=
 List.Perm.eq_of_pairwise (le:=fun a b:Int=>a≤b) (fun a b _ _ h1 h2=>by omega) hx hy hp
theorem sortZ_up (xs:List Int):(sortZ xs).Pairwise (· ≤ ·):=by
 have:=List.pairwise_mergeSort (le:=fun x y:Int=>decide (x≤y)) (fun a b c h1 h2=>by simp only [decide_eq_true_eq] at *;omega) (fun a b=>by simp only [Bool.or_eq_true,decide_eq_true_eq];omega) xs
 exact this.imp fun h=>by simpa using h
theorem sortZ_perm (xs:List Int):(sortZ xs).Perm xs:=List.mergeSort_perm ..
theorem sortZ_self {xs:List Int}(h:xs.Pairwise (· ≤ ·)):sortZ xs=xs:=int_unique (sortZ_perm xs) (sortZ_up xs) h
theorem cutI_lt (n:Int): ∀(xs:List Int),∀x∈xs.take (cutI n xs),x<n
 | [],x,h=>by cases h
 | y::r,x,h=>by
  unfold cutI at h
  split at h
  ·rename_i hy
   rw [List.take_succ_cons] at h
   rcases List.mem_cons.1 h with rfl | h
   ·exact hy
   ·exact cutI_lt n r x h
  ·cases h
theorem cutI_ge (n:Int): ∀(xs:List Int),xs.Pairwise (· < ·)→∀x∈xs.drop (cutI n xs),n≤x
 | [],_,x,h=>by cases h
 | y::r,hp,x,h=>by
  rw [List.pairwise_cons] at hp
  unfold cutI at h
  split at h
  ·rw [List.drop_succ_cons] at h
   exact cutI_ge n r hp.2 x h
  ·rename_i hy
   rw [List.drop_zero] at h
   rcases List.mem_cons.1 h with rfl | h
   ·omega
   ·have:=hp.1 x h;omega
theorem putI_new {n:Int}{xs:List Int}(hp:xs.Pairwise (· < ·))(hn:n∉xs):(putI n xs).Perm (xs++[n])∧(putI n xs).Pairwise (· < ·):=by
 have hm:putI n xs=xs.take (cutI n xs)++[n]++xs.drop (cutI n xs):=putI_miss fun v hv=>beq_eq_false_iff_ne.2 fun e=>hn (e▸List.mem_of_getElem? hv)
 rw [hm]
 refine⟨?_,?_⟩
 ·have h1:(xs.take (cutI n xs)++[n]++xs.drop (cutI n xs)).Perm (xs.take (cutI n xs)++(xs.drop (cutI n xs)++[n])):=by
   rw [List.append_assoc];exact List.Perm.append_left _ List.perm_append_comm
  rwa [←List.append_assoc,List.take_append_drop] at h1
 ·have hsp:=hp
  rw [←List.take_append_drop (cutI n xs) xs,List.pairwise_append] at hsp
  rw [List.append_assoc,List.pairwise_append]
  refine⟨hsp.1,?_,fun a ha b hb=>?_⟩
  ·refine List.pairwise_cons.2 ⟨fun b hb=>?_,hsp.2.1⟩
   have:=cutI_ge n xs hp b hb
   have:n≠b:=fun e=>hn (e▸List.mem_of_mem_drop hb)
   omega
  ·rcases List.mem_cons.1 hb with rfl | hb
   ·exact cutI_lt b xs a ha
   ·exact hsp.2.2 a ha b hb
theorem sort_put {n:Int}{xs:List Int}(hp:xs.Pairwise (· < ·))(hn:n∉xs):sortZ (xs++[n])=putI n xs:=
 int_unique ((sortZ_perm _).trans (putI_new hp hn).1.symm) (sortZ_up _) ((putI_new hp hn).2.imp fun h=>by omega)
def hitL (ids:List Int)(l:GLive):List GDoc:=(aliveS l).filter fun d=>ids.any fun x=>d.Id==x
def dropL (ids:List Int)(l:GLive):GLive:=⟨l.Seg,sortZ (l.Dead++(hitL ids l).map (·.Id))⟩
structure LiveP (l:GLive):Prop where
 docs:docsS l.Seg.Docs=true
 up:l.Dead.Pairwise (· < ·)
 has: ∀z∈l.Dead,∃d∈l.Seg.Docs,d.Id=z
theorem live_p {c:GConf}{l:GLive}(h:liveS c l=true):LiveP l:=by
 have hd:=live_docs h
 unfold liveS at h
 simp only [Bool.and_eq_true] at h
 have hu:=h.1.2
 unfold upIS at hu
 rw [Bool.and_eq_true] at hu
 refine⟨hd.1,ups_pair hu.1,fun z hz=>?_⟩
 have:=List.all_eq_true.1 h.2.1 z hz
 unfold hasDoc at this
 obtain⟨x,hx,e⟩:=List.any_eq_true.1 this
 exact⟨x,hx,beq_iff_eq.1 e⟩
theorem LiveP.count {l:GLive}(h:LiveP l):(aliveS l).length+l.Dead.length=l.Seg.Docs.length:=by
 have:=split_len (ids_nodup h.docs) (h.up.imp fun h e=>by omega :l.Dead.Nodup) fun z hz=>by
  obtain⟨x,hx,e⟩:=h.has z hz
  exact List.mem_map.2 ⟨x,hx,e⟩
 rw [List.length_map,List.filter_map,List.length_map] at this
 exact this
theorem dead_any (l:GLive)(d:GDoc):deadIn l d=true↔d.Id∈l.Dead:=by
 unfold deadIn
 rw [List.any_eq_true]
 exact⟨fun⟨x,hx,e⟩=>by rw [beq_iff_eq.1 e];exact hx,fun h=>⟨_,h,beq_self_eq_true _⟩⟩
theorem goes_iff {l:GLive}(h:LiveP l)(id:Int):goes id l=true↔(∃d∈l.Seg.Docs,d.Id=id)∧id∉l.Dead:=by
 unfold goes
 rw [has_same h.docs,Bool.and_eq_true]
 unfold hasDoc
 rw [List.any_eq_true]
 constructor
 ·rintro⟨⟨d,hd,e⟩,h2⟩
  refine⟨⟨d,hd,beq_iff_eq.1 e⟩,fun hm=>?_⟩
  have:(l.Dead.any fun x=>id==x)=true:=List.any_eq_true.2 ⟨id,hm,beq_self_eq_true _⟩
  rw [this] at h2;cases h2
 ·rintro⟨⟨d,hd,e⟩,h2⟩
  refine⟨⟨d,hd,beq_iff_eq.2 e⟩,?_⟩
  cases ha:l.Dead.any fun x=>id==x with
  | false=>rfl
  | true=>
   obtain⟨x,hx,e⟩:=List.any_eq_true.1 ha
   exact absurd (beq_iff_eq.1 e▸hx) h2
theorem alive_mem (l:GLive)(d:GDoc):d∈aliveS l↔d∈l.Seg.Docs∧d.Id∉l.Dead:=by
 unfold aliveS
 rw [List.mem_filter,←dead_any]
 cases deadIn l d<;>simp
theorem hit_one {l:GLive}(h:LiveP l)(id:Int):(hitL [id] l).map (·.Id)=if goes id l then [id] else []:=by
 unfold hitL
 have e1:(fun d:GDoc=>[id].any fun x=>d.Id==x)=fun d=>id==d.Id:=by
  funext d
  rw [List.any_cons,List.any_nil,Bool.or_false]
  by_cases e:d.Id=id
  ·rw [beq_iff_eq.2 e,beq_iff_eq.2 e.symm]
  ·rw [beq_eq_false_iff_ne.2 e,beq_eq_false_iff_ne.2 (Ne.symm e)]
 have hn:((aliveS l).map (·.Id)).Nodup:=(List.Sublist.map _ (List.filter_sublist ..)).nodup (ids_nodup h.docs)
 rw [e1,hit_self,filter_one hn]
 have:(id∈(aliveS l).map (·.Id))↔goes id l=true:=by
  rw [goes_iff h,List.mem_map]
  constructor
  ·rintro⟨d,hd,rfl⟩
   have:=(alive_mem l d).1 hd
   exact⟨⟨d,this.1,rfl⟩,this.2⟩
  ·rintro⟨⟨d,hd,rfl⟩,h2⟩
   exact⟨d,(alive_mem l d).2 ⟨hd,h2⟩,rfl⟩
 by_cases hg:goes id l=true
 ·rw [if_pos hg,if_pos (this.2 hg)]
 ·rw [if_neg hg,if_neg fun h=>hg (this.1 h)]
theorem drop_one {l:GLive}(h:LiveP l)(id:Int):dropL [id] l=goneL id l:=by
 unfold dropL goneL
 rw [hit_one h]
 by_cases hg:goes id l=true
 ·rw [if_pos hg,if_pos hg,sort_put h.up ((goes_iff h id).1 hg).2]
 ·rw [if_neg hg,if_neg hg,List.append_nil,sortZ_self (h.up.imp fun h=>by omega)]
theorem gone_p {l:GLive}(h:LiveP l)(id:Int):LiveP (goneL id l):=by
 unfold goneL
 by_cases hg:goes id l=true
 ·rw [if_pos hg]
  obtain⟨h1,h2⟩:=(goes_iff h id).1 hg
  have hp:=putI_new h.up h2
  refine⟨h.docs,hp.2,fun z hz=>?_⟩
  rcases List.mem_append.1 (hp.1.mem_iff.1 hz) with hz | hz
  ·exact h.has z hz
  ·rcases List.mem_singleton.1 hz with rfl
   exact h1
 ·rw [if_neg hg];exact h
theorem gone_alive {l:GLive}(h:LiveP l)(id:Int):aliveS (goneL id l)=(aliveS l).filter fun d=> !(d.Id==id):=by
 have hmem: ∀d:GDoc,d.Id∈(goneL id l).Dead↔d.Id∈l.Dead∨(goes id l=true∧d.Id=id):=fun d=>by
  unfold goneL
  by_cases hg:goes id l=true
  ·rw [if_pos hg]
   show d.Id∈putI id l.Dead↔_
   rw [(putI_new h.up ((goes_iff h id).1 hg).2).1.mem_iff,List.mem_append,List.mem_singleton]
   simp [hg]
  ·rw [if_neg hg];simp [hg]
 have hs:(goneL id l).Seg=l.Seg:=by unfold goneL;split<;>rfl
 unfold aliveS
 rw [hs,List.filter_filter]
 refine List.filter_congr fun d hd=>?_
 have h1:deadIn (goneL id l) d=true↔deadIn l d=true∨(goes id l=true∧d.Id=id):=by rw [dead_any,dead_any];exact hmem d
 have h2:d.Id=id→deadIn l d=false→goes id l=true:=fun e hf=>(goes_iff h id).2 ⟨⟨d,hd,e⟩,fun hm=>by
  have:deadIn l d=true:=(dead_any l d).2 (e▸hm)
  rw [this] at hf;cases hf⟩
 cases ha:deadIn l d with
 | true=>rw [h1.2 (.inl ha)];simp
 | false=>
  by_cases e:d.Id=id
  ·rw [h1.2 (.inr ⟨h2 e ha,e⟩),beq_iff_eq.2 e];rfl
  ·have:deadIn (goneL id l) d=false:=by
    rw [Bool.eq_false_iff]
    intro hc
    rcases h1.1 hc with h | ⟨_,h⟩
    ·rw [ha] at h;cases h
    ·exact e h
   rw [this,beq_eq_false_iff_ne.2 e];rfl
end Go.Fk
