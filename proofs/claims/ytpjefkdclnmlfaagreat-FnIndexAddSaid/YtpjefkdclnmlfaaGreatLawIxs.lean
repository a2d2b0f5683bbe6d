import Derived.Test.YtpjefkdclnmlfaaGreatLawDrs
import Derived.Test.YtpjefkdclnmlfaaGreatLawIdxs
import Derived.Test.YtpjefkdclnmlfaaGreatLawPs
import Derived.Test.YtpjefkdclnmlfaaGreatLawRdAll
/-
  Copies of how words are read. Of no program.
-/
namespace Go.Fk
open Go
theorem foTexts_refl (F:Nat)(a:List Str)(ha:a.length<1000000000)(hF:a.length<F):M.laws_foTexts F a a=some true:=by
 unfold M.laws_foTexts
 rw [beq_self_eq_true,Bool.not_true,cond_false,clean0' (n:=a.length) F (by omega) (fun i hi=>?_) ?_]
 ·rfl
 ·rw [decide_eq_false (by omega)];rfl
 ·rw [decide_eq_true (by omega),cond_true,getI_at hi,Option.bind_some,Option.bind_some,w64_succ' (by omega),beq_self_eq_true]
  rfl
theorem foConf_same (F:Nat)(c:GConf)(hc:ConfFit 100 c)(hF:1000<F):M.laws_foConf F c c=some true:=by
 have h1:=hc.stops.1
 have h2:=hc.syns.1
 unfold M.laws_foConf
 rw [foTexts_refl F _ (by omega) (by omega),Option.bind_some,Bool.not_true,cond_false,beq_self_eq_true,Bool.not_true,Option.bind_some,cond_false,clean0' (n:=c.Syns.length) F (by omega) (fun i hi=>?_) ?_]
 ·rfl
 ·rw [decide_eq_false (by omega)];rfl
 ·have:=(hc.syns.2 _ (List.getElem_mem hi)).1
  rw [decide_eq_true (by omega),cond_true,getI_at hi,Option.bind_some,Option.bind_some,beq_self_eq_true,Bool.not_true,cond_false,Option.bind_some,Option.bind_some,foTexts_refl F _ (by omega) (by omega),w64_succ' (by omega)]
  rfl
theorem impl_cloneConf (F:Nat)(c:GConf)(hc:ConfFit 100 c):M.impl_cloneConf F c=some c:=by
 have h1:=hc.stops.1
 have h2:=hc.syns.1
 unfold M.impl_cloneConf
 rw [catLok (by simp only [List.length_nil];omega),List.nil_append,Option.bind_some]
 obtain⟨t,ht,hp⟩:=forE_run' (σ:=GConf) (f:=fun (i65:Nat) (s61:GConf)=>(Option.bind (getI c.Syns ((i65:Nat):Int)) fun x87=>(Option.bind (catL 16 ([]:List Str) x87.From) fun x115=>(Option.bind (catL 40 s61.Syns ([(GSyn.mk x115 x87.To)]:List GSyn)) fun x133=>(some (GConf.mk s61.Stops x133))))))
  (fun i s=>s=⟨c.Stops,c.Syns.take i⟩) c.Syns.length (fun i s hi hs=>by
   subst hs
   have h3:=(hc.syns.2 _ (List.getElem_mem hi)).1
   have h4:=List.length_take_le i c.Syns
   refine⟨_,?_,rfl⟩
   rw [getI_at hi,Option.bind_some,catLok (by simp only [List.length_nil];omega),Option.bind_some,catLok (by simp only [List.length_cons,List.length_nil];omega),Option.bind_some,List.take_succ_eq_append_getElem hi]
   rfl) c.Syns.length 0 ⟨c.Stops,[]⟩ (by omega) (by rw [List.take_zero])
 rw [ht,hp,List.take_length]
 rfl
theorem spec_cloneConf (F:Nat)(c:GConf)(hc:ConfFit 100 c)(hF:1000<F):M.spec_l18CopyConf F c=some c:=by
 have h1:=hc.stops.1
 have h2:=hc.syns.1
 unfold M.spec_l18CopyConf
 rw [catLok (by simp only [List.length_nil];omega),List.nil_append,Option.bind_some]
 obtain⟨t,ht,hp⟩:=whileM_run (σ:=Int×GConf) (τ:=GConf) (f:=fun (s55:Int×GConf)=>(cond (decide (s55.1<(c.Syns.length:Int))) (Option.bind (getI c.Syns s55.1) fun x84=>(Option.bind (getI c.Syns s55.1) fun x98=>(Option.bind (catL 16 ([]:List Str) x84.From) fun x118=>(Option.bind (catL 40 s55.2.Syns ([(GSyn.mk x118 x98.To)]:List GSyn)) fun x136=>(some (.inl ((w64 (s55.1+(1:Int))),(GConf.mk s55.2.Stops x136)))))))) (some (.inr s55.2))))
  (Post:=fun t=>t=c) (fun i s=>s=((i:Int),⟨c.Stops,c.Syns.take i⟩)) c.Syns.length (fun i s hi hs=>.inl (by
   subst hs
   have h3:=(hc.syns.2 _ (List.getElem_mem hi)).1
   have h4:=List.length_take_le i c.Syns
   refine⟨_,?_,rfl⟩
   dsimp only
   rw [decide_eq_true (by omega),cond_true,getI_at hi,Option.bind_some,Option.bind_some,catLok (by simp only [List.length_nil];omega),Option.bind_some,catLok (by simp only [List.length_cons,List.length_nil];omega),Option.bind_some,List.take_succ_eq_append_getElem hi,w64_succ' (by omega)]
   rfl)) (fun s hs=>by
   subst hs
   refine⟨_,?_,rfl⟩
   dsimp only
   rw [decide_eq_false (by omega),cond_false,List.take_length]) c.Syns.length 0 ((0:Int),⟨c.Stops,[]⟩) F (by omega) (by omega) (by rw [List.take_zero];rfl)
 rw [ht,hp]
 rfl
end Go.Fk
set_option linter.unusedVariables false
namespace Go.Fk
open Go
theorem fm_w {α β τ τ':Type}{xs:List α}(g:α→List β)(B:Nat)(e:List β→τ)(mk:List β→Int→τ'){f:τ'→Option (τ'⊕τ)}{s0:τ'}(hs:s0=mk [] 0)(F:Nat)(hF:xs.length<F)(hB:(xs.flatMap g).length≤B)
  (h: ∀(i:Nat) x acc,xs[i]? =some x→(acc++g x).length≤B→f (mk acc (i:Int))=some (.inl (mk (acc++g x) ((i+1:Nat):Int))))(h0: ∀acc,f (mk acc (xs.length:Int))=some (.inr (e acc))):whileM f F s0=some (e (xs.flatMap g)):=by
 have key:=fold_while (xs:=xs) (fun acc x=>acc++g x) (fun i acc=>acc=(xs.take i).flatMap g) e mk (f:=f) (s0:=s0) [] hs F hF (by rw [List.take_zero];rfl) (fun i x acc hx hI=>by
  have hi:=(List.getElem?_eq_some_iff.1 hx)
  obtain⟨hi,rfl⟩:=hi
  have e1:acc++g xs[i]=(xs.take (i+1)).flatMap g:=by rw [hI,List.take_succ_eq_append_getElem hi,List.flatMap_append];simp
  refine⟨h i _ acc hx ?_,e1⟩
  rw [e1]
  refine Nat.le_trans ?_ hB
  conv=>rhs;rw [←List.take_append_drop (i+1) xs,List.flatMap_append,List.length_append]
  omega) (fun acc _=>h0 acc)
 rw [key.1]
 congr 2
 have:=key.2
 rwa [List.take_length] at this
theorem flat_one {α β:Type}(k:α→β): ∀xs:List α,(xs.flatMap fun x=>[k x])=xs.map k
 | []=>rfl
 | x::r=>by rw [List.flatMap_cons,flat_one k r];rfl
theorem flat_self {α:Type}(xs:List α):(xs.flatMap fun x=>[x])=xs:=(flat_one id xs).trans (List.map_id xs)
structure LiveM (D:Nat)(l:GLive):Prop where
 docs:DocsFit l.Seg.Docs
 ents:Fits 10000 l.Seg.Entries
 dead:l.Dead.length≤D
structure IdxM (S D:Nat)(x:GIndex):Prop where
 conf:ConfFit 100 x.Conf
 segs:x.Segs.length≤S
 live: ∀l∈x.Segs,LiveM D l
theorem spec_copySeg (F:Nat)(s:GSeg)(hd:DocsFit s.Docs)(he:Fits 10000 s.Entries)(hF:30000<F):M.spec_l18CopySeg F s=some s:=by
 have h1:=hd.few
 have h2:=he.1
 unfold M.spec_l18CopySeg
 rw [fm_w (xs:=s.Docs) (fun d=>[d]) 100 (fun acc=>GSeg.mk acc []) (fun acc i=>(i,GSeg.mk acc [])) rfl F (by omega) (by rw [flat_self];exact h1) (fun i d acc hx hB=>?_) (fun acc=>?_)]
 ·rw [flat_self,Option.bind_some,Option.bind_some,fm_w (xs:=s.Entries) (fun e=>[e]) 10000 (fun acc=>GSeg.mk s.Docs acc) (fun acc i=>(i,GSeg.mk s.Docs acc)) rfl F (by omega) (by rw [flat_self];exact h2) (fun i e acc hx hB=>?_) (fun acc=>?_)]
  ·rw [flat_self];rfl
  ·have hi:=(List.getElem?_eq_some_iff.1 hx).1
   dsimp only
   rw [decide_eq_true (by omega),cond_true,getI_nat',hx,Option.bind_some,spec_copyPosts F _ (he.2 e (List.mem_of_getElem? hx)) (by omega),Option.bind_some,catLok (by simp at hB ⊢;omega),Option.bind_some,w64_succ' (by omega)]
  ·dsimp only
   rw [decide_eq_false (by omega)];rfl
 ·have hi:=(List.getElem?_eq_some_iff.1 hx).1
  have hf:=hd.doc d (List.mem_of_getElem? hx)
  dsimp only
  rw [decide_eq_true (by omega),cond_true,getI_nat',hx,Option.bind_some,spec_clone F d (by have:=hf.fields;omega) (by have:=hf.nums;omega),Option.bind_some,catLok (by simp at hB ⊢;omega),Option.bind_some,w64_succ' (by omega)]
 ·dsimp only
  rw [decide_eq_false (by omega)];rfl
theorem spec_copyX (F:Nat)(x:GIndex)(h:IdxM 1000 10000 x)(hF:30000<F):M.spec_l18Copy F x=some x:=by
 have h2:=h.segs
 unfold M.spec_l18Copy
 rw [spec_cloneConf F x.Conf h.conf (by omega),Option.bind_some,fm_w (xs:=x.Segs) (fun l=>[l]) 1000 (fun acc=>GIndex.mk x.Conf acc) (fun acc i=>(i,GIndex.mk x.Conf acc)) rfl F (by omega) (by rw [flat_self];exact h2) (fun i l acc hx hB=>?_) (fun acc=>?_)]
 ·rw [flat_self];rfl
 ·have hi:=(List.getElem?_eq_some_iff.1 hx).1
  have hf:=h.live l (List.mem_of_getElem? hx)
  dsimp only
  rw [decide_eq_true (by omega),cond_true,getI_nat',hx,Option.bind_some,Option.bind_some,spec_copySeg F l.Seg hf.docs hf.ents (by omega),Option.bind_some,catLok (by have:=hf.dead;simp only [List.length_nil];omega),List.nil_append,Option.bind_some,catLok (by simp at hB ⊢;omega),Option.bind_some,Option.bind_some,w64_succ' (by omega)]
 ·dsimp only
  rw [decide_eq_false (by omega)];rfl
def cutI (n:Int):List Int→Nat
 | []=>0
 | x::r=>if x<n then cutI n r+1 else 0
theorem cutI_le (n:Int): ∀xs:List Int,cutI n xs≤xs.length
 | []=>Nat.le_refl _
 | x::r=>by
  unfold cutI
  split
  ·have:=cutI_le n r;simp only [List.length_cons];omega
  ·exact Nat.zero_le _
def putI (n:Int)(xs:List Int):List Int:=if (xs[cutI n xs]?).elim false (fun x=>x==n) then xs else xs.take (cutI n xs)++[n]++xs.drop (cutI n xs)
theorem putI_len (n:Int)(xs:List Int):(putI n xs).length≤xs.length+1:=by
 have:=cutI_le n xs
 unfold putI
 split
 ·omega
 ·simp only [List.length_append,List.length_take,List.length_drop,List.length_singleton];omega
theorem putI_hit {n v:Int}{xs:List Int}(hv:xs[cutI n xs]? =some v)(hb:(v==n)=true):putI n xs=xs:=by
 unfold putI
 exact if_pos (by rw [hv];exact hb)
theorem putI_miss {n:Int}{xs:List Int}(h: ∀v,xs[cutI n xs]? =some v→(v==n)=false):putI n xs=xs.take (cutI n xs)++[n]++xs.drop (cutI n xs):=by
 unfold putI
 refine if_neg ?_
 cases e:xs[cutI n xs]? with
 | none=>exact Bool.false_ne_true
 | some v=>rw [show (some v).elim false (fun x=>x==n)=(v==n) from rfl,h v e];decide
theorem cutI_while {n:Int}{xs:List Int}{f:Int→Option (Int⊕Int)}(h1: ∀(i:Nat) x,xs[i]? =some x→f (i:Int)=some (if x<n then .inl ((i+1:Nat):Int) else .inr (i:Int)))(h0:f (xs.length:Int)=some (.inr (xs.length:Int))):
  ∀k i F,i+k=xs.length→k<F→whileM f F (i:Int)=some (((i+cutI n (xs.drop i)):Nat):Int)
 | 0,i,F,e,hF=>by
  obtain⟨F,rfl⟩: ∃G,F=G+1:=⟨F-1,by omega⟩
  rw [whileM,show i=xs.length by omega,h0,List.drop_of_length_le (Nat.le_refl _)];rfl
 | k+1,i,F,e,hF=>by
  obtain⟨F,rfl⟩: ∃G,F=G+1:=⟨F-1,by omega⟩
  have hi:i<xs.length:=by omega
  rw [whileM,h1 i xs[i] (List.getElem?_eq_getElem hi),List.drop_eq_getElem_cons hi,cutI,Option.bind_some]
  by_cases h:xs[i]<n
  ·rw [if_pos h,if_pos h]
   show whileM f F _=_
   rw [cutI_while h1 h0 k (i+1) F (by omega) (by omega)]
   congr 2;omega
  ·rw [if_neg h,if_neg h];rfl
theorem spec_putI (F:Nat)(xs:List Int)(n:Int)(hl:xs.length≤1000000)(hF:1000000<F):M.spec_l8Put F xs n=some (putI n xs):=by
 unfold M.spec_l8Put
 have hw: ∀f,(∀(i:Nat) x,xs[i]? =some x→f (i:Int)=some (if x<n then .inl ((i+1:Nat):Int) else .inr (i:Int)))→f (xs.length:Int)=some (.inr (xs.length:Int))→whileM f F (0:Int)=some ((cutI n xs:Nat):Int):=fun f a b=>by
  have:=cutI_while (f:=f) a b xs.length 0 F (by omega) (by omega)
  rwa [List.drop_zero,Nat.zero_add] at this
 rw [hw _ (fun i x hx=>?_) ?_]
 ·have hr:=cutI_le n xs
  have c1:subL xs 0 ((cutI n xs:Nat):Int)=some (xs.take (cutI n xs)):=by
   unfold subL
   rw [if_pos ⟨by omega,by omega,by omega⟩]
   simp
  have c2:subL xs ((cutI n xs:Nat):Int) (xs.length:Int)=some (xs.drop (cutI n xs)):=subL_tail hr
  have l1:(xs.take (cutI n xs)).length≤1000000:=by simp;omega
  have l2:(xs.drop (cutI n xs)).length≤1000000:=by simp;omega
  have l0:([]:List Int).length=0:=rfl
  rw [Option.bind_some,Option.bind_some]
  rcases Nat.lt_or_ge (cutI n xs) xs.length with h | h
  ·obtain⟨v,hv⟩: ∃v,xs[cutI n xs]? =some v:=⟨_,List.getElem?_eq_getElem h⟩
   rw [decide_eq_true (by omega),cond_true,getI_nat',hv,Option.bind_some,Option.bind_some]
   by_cases hb:(v==n)=true
   ·rw [putI_hit hv hb,hb];rfl
   ·rw [putI_miss (fun u hu=>by rw [hv] at hu;cases hu;exact Bool.eq_false_iff.2 hb),Bool.eq_false_iff.2 hb,cond_false,c1,Option.bind_some,catLok (by omega),List.nil_append,Option.bind_some,catLok (by simp only [List.length_singleton];omega),Option.bind_some,c2,Option.bind_some,catLok (by simp only [List.length_append,List.length_singleton];omega),Option.bind_some]
  ·rw [decide_eq_false (by omega),cond_false,Option.bind_some,cond_false,c1,Option.bind_some,catLok (by omega),List.nil_append,Option.bind_some,catLok (by simp only [List.length_singleton];omega),Option.bind_some,c2,Option.bind_some,catLok (by simp only [List.length_append,List.length_singleton];omega),Option.bind_some,putI_miss (fun u hu=>by rw [List.getElem?_eq_none h] at hu;cases hu)]
 ·rw [decide_eq_false (by omega)];rfl
 ·have hi:=(List.getElem?_eq_some_iff.1 hx).1
  rw [decide_eq_true (by omega),cond_true,getI_nat',hx,Option.bind_some,Option.bind_some,w64_succ' (by omega)]
  by_cases h:x<n
  ·rw [decide_eq_true h,if_pos h];rfl
  ·rw [decide_eq_false h,if_neg h];rfl
def goes (id:Int)(l:GLive):Bool:=hasR l.Seg id&& !(l.Dead.any fun x=>id==x)
def goneL (id:Int)(l:GLive):GLive:=if goes id l then ⟨l.Seg,putI id l.Dead⟩ else l
def goneX (id:Int)(x:GIndex):GIndex:=⟨x.Conf,x.Segs.map (goneL id)⟩
def fullX (x:GIndex):GIndex:=⟨x.Conf,x.Segs.filter fun l=>decide ((l.Dead.length:Int)<(l.Seg.Docs.length:Int))⟩
theorem goneL_m {D:Nat}{id:Int}{l:GLive}(h:LiveM D l):LiveM (D+1) (goneL id l):=by
 unfold goneL
 split
 ·exact⟨h.docs,h.ents,by have:=putI_len id l.Dead;have:=h.dead;show (putI id l.Dead).length≤_;omega⟩
 ·exact⟨h.docs,h.ents,by have:=h.dead;omega⟩
theorem goneX_m {S D:Nat}{id:Int}{x:GIndex}(h:IdxM S D x):IdxM S (D+1) (goneX id x):=
 ⟨h.conf,by unfold goneX;rw [List.length_map];exact h.segs,fun l hl=>by
  obtain⟨l',hl',rfl⟩:=List.mem_map.1 hl
  exact goneL_m (h.live l' hl')⟩
theorem fullX_m {S D:Nat}{x:GIndex}(h:IdxM S D x):IdxM S D (fullX x):=
 ⟨h.conf,Nat.le_trans (List.length_filter_le ..) h.segs,fun l hl=>h.live l (List.mem_filter.1 hl).1⟩
theorem IdxM.le {S S' D D':Nat}{x:GIndex}(h:IdxM S D x)(h1:S≤S')(h2:D≤D'):IdxM S' D' x:=
 ⟨h.conf,Nat.le_trans h.segs h1,fun l hl=>⟨(h.live l hl).docs,(h.live l hl).ents,Nat.le_trans (h.live l hl).dead h2⟩⟩
theorem spec_gone (F:Nat)(x:GIndex)(id:Int)(h:IdxM 1000 10000 x)(hF:1000000<F):M.spec_l18Gone F x id=some (goneX id x,x.Segs.any (goes id)):=by
 have h2:=h.segs
 unfold M.spec_l18Gone
 rw [fm_w (xs:=x.Segs) (fun l=>[(goes id l,goneL id l)]) 1000 (fun acc=>(acc.any (·.1),GIndex.mk x.Conf (acc.map (·.2)))) (fun acc i=>(acc.any (·.1),i,GIndex.mk x.Conf (acc.map (·.2)))) (s0:=(false,(0:Int),GIndex.mk x.Conf [])) rfl F (by omega) (by rw [flat_one,List.length_map];exact h2) (fun i l acc hx hB=>?_) (fun acc=>?_)]
 ·rw [flat_one,List.any_map,List.map_map];rfl
 ·have hi:=(List.getElem?_eq_some_iff.1 hx).1
  have hf:=h.live l (List.mem_of_getElem? hx)
  have hd1:=hf.docs.few
  have hd2:=hf.dead
  have hp:=putI_len id l.Dead
  dsimp only
  rw [decide_eq_true (by omega),cond_true,getI_nat',hx,Option.bind_some,spec_docI F l.Seg id (by omega) (by omega),Option.bind_some]
  have hg:((cond (!(((l.Seg.Docs.find? fun d=>d.Id==id).getD ⟨0,[],[]⟩).Id==0)) (Option.bind (M.spec_l18Dead F l id) fun r130=>(some (!r130))) (some false)):Option Bool)=some (goes id l):=by
   unfold goes hasR
   cases ((l.Seg.Docs.find? fun d=>d.Id==id).getD ⟨0,[],[]⟩).Id==0 with
   | true=>rfl
   | false=>
    unfold M.spec_l18Dead
    rw [Bool.not_false,cond_true,has_id F _ _ (by omega) (by omega)];rfl
  rw [hg,Option.bind_some]
  cases hb:goes id l with
  | true=>
   have e1:goneL id l=⟨l.Seg,putI id l.Dead⟩:=by unfold goneL;rw [if_pos hb]
   rw [cond_true,catLok (by simp only [List.length_nil];omega),List.nil_append,Option.bind_some,spec_putI F _ id (by omega) hF,Option.bind_some,Option.bind_some]
   dsimp only
   rw [catLok (by simp at hB ⊢;omega),Option.bind_some,w64_succ' (by omega),e1]
   simp
  | false=>
   have e1:goneL id l=l:=by unfold goneL;rw [if_neg (by rw [hb];decide)]
   rw [cond_false,Option.bind_some]
   dsimp only
   rw [catLok (by simp at hB ⊢;omega),Option.bind_some,w64_succ' (by omega),e1]
   simp
 ·dsimp only
  rw [decide_eq_false (by omega)];rfl
theorem flat_filterX {α:Type}(p:α→Bool): ∀xs:List α,(xs.flatMap fun x=>if p x then [x] else [])=xs.filter p
 | []=>rfl
 | x::r=>by
  rw [List.flatMap_cons,flat_filterX p r,List.filter_cons]
  cases p x<;>rfl
theorem spec_full (F:Nat)(x:GIndex)(h:x.Segs.length≤1000)(hF:1000000<F):M.spec_l18Full F x=some (fullX x):=by
 unfold M.spec_l18Full
 rw [fm_w (xs:=x.Segs) (fun l=>if decide ((l.Dead.length:Int)<(l.Seg.Docs.length:Int)) then [l] else []) 1000 (fun acc=>GIndex.mk x.Conf acc) (fun acc i=>(i,GIndex.mk x.Conf acc)) rfl F (by omega) (by rw [flat_filterX];exact Nat.le_trans (List.length_filter_le ..) h) (fun i l acc hx hB=>?_) (fun acc=>?_)]
 ·rw [flat_filterX];rfl
 ·have hi:=(List.getElem?_eq_some_iff.1 hx).1
  dsimp only
  rw [decide_eq_true (by omega),cond_true,getI_nat',hx,Option.bind_some,Option.bind_some]
  cases hb:decide ((l.Dead.length:Int)<(l.Seg.Docs.length:Int)) with
  | true=>
   rw [hb] at hB
   rw [cond_true,Option.bind_some,catLok (by simp at hB ⊢;omega),Option.bind_some,w64_succ' (by omega)];rfl
  | false=>rw [cond_false,w64_succ' (by omega)];simp
 ·dsimp only
  rw [decide_eq_false (by omega)];rfl
theorem DocFit.big {d:GDoc}(h:DocFit d):DocBig 1048576 d:=
 ⟨by have:=h.fields;omega,by have:=h.nums;omega,fun f hf=>by have:=h.field f hf;omega,fun a ha=>by have:=h.num a ha;omega⟩
theorem ConfFit.le {B B':Nat}{c:GConf}(h:ConfFit B c)(hb:B≤B'):ConfFit B' c:=
 ⟨⟨Nat.le_trans h.stops.1 hb,fun s hs=>Nat.le_trans (h.stops.2 s hs) hb⟩,⟨Nat.le_trans h.syns.1 hb,fun r hr=>⟨Nat.le_trans (h.syns.2 r hr).1 hb,Nat.le_trans (h.syns.2 r hr).2.1 hb,fun w hw=>Nat.le_trans ((h.syns.2 r hr).2.2 w hw) hb⟩⟩⟩
theorem IdxM.mid {x:GIndex}(h:IdxM 1000 10000 x):IndexMid x:=
 ⟨h.conf.le (by omega),by have:=h.segs;omega,fun l hl=>⟨⟨by have:=(h.live l hl).docs.few;omega,fun d hd=>((h.live l hl).docs.doc d hd).big⟩,by have:=(h.live l hl).dead;omega⟩⟩
theorem spec_okM (F:Nat)(x:GIndex)(h:IdxM 1000 10000 x)(hF:5000000<F):M.spec_l18Ok F x=some (indexS x):=spec_18OkD F x h.mid hF
theorem live_m {c:GConf}{l:GLive}(h:liveS c l=true):LiveM 60 l:=by
 unfold liveS at h
 simp only [Bool.and_eq_true] at h
 obtain⟨_,h2,h3⟩:=seg_is h.1.1
 have hu:=h.1.2
 unfold upIS at hu
 rw [Bool.and_eq_true,decide_eq_true_iff] at hu
 exact⟨docs_fit h2,by rw [h3];exact(seg_fits h2).le (by omega),by omega⟩
theorem index_m {x:GIndex}(h:indexS x=true)(hc:ConfFit 100 x.Conf):IdxM 5 60 x:=by
 unfold indexS at h
 simp only [Bool.and_eq_true,decide_eq_true_eq,List.all_eq_true] at h
 exact⟨hc,by omega,fun l hl=>live_m (h.2.1 l hl)⟩
end Go.Fk
set_option linter.unusedVariables false
namespace Go.Fk
open Go
theorem pairS_ofI {α:Type}{ok:α→Bool}{lt:α→α→Bool}{xs:List α}(h1: ∀x∈xs,ok x=true)(h2:xs.Pairwise fun a b=>lt a b=true):pairS ok lt xs=true:=by
 unfold pairS
 rw [List.all_eq_true]
 rintro⟨x,i⟩ hq
 obtain⟨j,hj⟩:=List.mem_iff_getElem?.1 hq
 obtain⟨k1,k2⟩:=zipAt hj
 simp only at k1 k2
 subst k2
 obtain⟨hi,he⟩:=List.getElem?_eq_some_iff.1 k1
 unfold pairP
 simp only
 rw [h1 x (List.mem_of_getElem? k1),Bool.true_and]
 rcases Nat.eq_zero_or_pos i with rfl | hp
 ·rfl
 ·have hl:i-1<xs.length:=by omega
  rw [List.getElem?_eq_getElem hl]
  have:=List.pairwise_iff_getElem.1 h2 (i-1) i hl hi (by omega)
  rw [he] at this
  simp [this]
theorem docs_of {ds:List GDoc}(h1:ds.length≤16)(h2: ∀d∈ds,docS d=true)(h3:ds.Pairwise fun a b=>a.Id<b.Id):docsS ds=true:=by
 unfold docsS
 rw [pairS_ofI (lt:=docLt) h2 (h3.imp fun h=>decide_eq_true h),decide_eq_true (by omega)];rfl
theorem sort_of {ds:List GDoc}(h1:ds.length≤16)(h2: ∀d∈ds,docS d=true)(h3:(ds.map (·.Id)).Nodup):docsS (sortD ds)=true:=by
 refine docs_of (by rw [sortD_len];exact h1) (fun d hd=>h2 d ((sortD_perm ds).mem_iff.1 hd)) ?_
 have h4:((sortD ds).map (·.Id)).Nodup:=((sortD_perm ds).map _).nodup_iff.2 h3
 have h5:(sortD ds).Pairwise fun a b=>a.Id≠b.Id:=List.pairwise_map.1 h4
 exact((byId_sorted ds).and h5).imp fun {a b} h=>by have:=h.1;have:=h.2;omega
theorem sort_ids {ds:List GDoc}(h:docsS (sortD ds)=true):ds.length≤16∧(∀d∈ds,docS d=true)∧(ds.map (·.Id)).Nodup:=by
 have h1:=(docs_ids h).1
 rw [sortD_len] at h1
 exact⟨h1,fun d hd=>(docs_all h).2 d ((sortD_perm ds).mem_iff.2 hd),((sortD_perm ds).map _).nodup_iff.1 (ids_nodup h)⟩
theorem sort_sub {xs ys:List GDoc}(h:docsS (sortD xs)=true)(hs:ys.Sublist xs):docsS (sortD ys)=true:=by
 obtain⟨h1,h2,h3⟩:=sort_ids h
 exact sort_of (Nat.le_trans hs.length_le h1) (fun d hd=>h2 d (hs.subset hd)) ((hs.map _).nodup h3)
theorem all_sub {xs ys:List GLive}(hs:ys.Sublist xs):(allS ys).Sublist (allS xs):=by
 unfold allS
 induction hs with
 | slnil=>exact .slnil
 | cons a _ ih=>rw [List.flatMap_cons];exact ih.trans (List.sublist_append_right ..)
 | cons_cons a _ ih=>rw [List.flatMap_cons,List.flatMap_cons];exact List.Sublist.append_left ih _
theorem index_sort {x:GIndex}(h:indexS x=true):confS x.Conf=true∧docsS (sortD (allS x.Segs))=true:=by
 unfold indexS at h
 simp only [Bool.and_eq_true] at h
 exact⟨h.1.1,h.2.2⟩
def noX:GIndex:=⟨⟨[],[]⟩,[]⟩
theorem noX_m:IdxM 5 60 noX:=⟨⟨⟨Nat.zero_le _,fun s hs=>by cases hs⟩,⟨Nat.zero_le _,fun s hs=>by cases hs⟩⟩,Nat.zero_le _,fun l hl=>by cases hl⟩
def dropX (x:GIndex)(id:Int):GIndex×Bool:=if indexS x then (fullX (goneX id x),x.Segs.any (goes id)) else (noX,false)
theorem spec_drop (F:Nat)(x:GIndex)(id:Int)(h:IdxM 1000 9000 x)(hF:5000000<F):M.spec_IndexDrop F x id=some (dropX x id):=by
 have h':IdxM 1000 10000 x:=h.le (Nat.le_refl _) (by omega)
 unfold M.spec_IndexDrop dropX
 rw [spec_okM F x h' hF,Option.bind_some]
 cases indexS x with
 | false=>rfl
 | true=>rw [Bool.not_true,cond_false,spec_copyX F x h' (by omega),Option.bind_some,spec_gone F x id h' (by omega),Option.bind_some,spec_full F _ (by show (x.Segs.map _).length≤_;rw [List.length_map];exact h.segs) (by omega)];rfl
theorem dropX_m {x:GIndex}{id:Int}(hc:ConfFit 100 x.Conf):IdxM 5 61 (dropX x id).1:=by
 unfold dropX
 by_cases h:indexS x=true
 ·rw [if_pos h];exact fullX_m (goneX_m (index_m h hc))
 ·rw [if_neg h];exact noX_m.le (Nat.le_refl _) (by omega)
def mergeX (x:GIndex)(k:Nat):GIndex:=⟨x.Conf,x.Segs.take k++[⟨segS x.Conf (sortD (allS ((x.Segs.drop k).take 2))),[]⟩]++x.Segs.drop (k+2)⟩
def joinX (x:GIndex)(at_:Int):GIndex×Bool:=if indexS x then (if decide (0≤at_)&&decide (at_≤(x.Segs.length:Int)-2) then (mergeX x at_.toNat,true) else (x,false)) else (noX,false)
theorem merge_docs {x:GIndex}(h:indexS x=true)(k:Nat):docsS (sortD (allS ((x.Segs.drop k).take 2)))=true:=
 sort_sub (index_sort h).2 (all_sub ((List.take_sublist 2 _).trans (List.drop_sublist k _)))
theorem segS_m {c:GConf}{ds:List GDoc}(h:docsS ds=true):LiveM 0 ⟨segS c ds,[]⟩:=⟨docs_fit h,(seg_fits h).le (by omega),Nat.le_refl _⟩
theorem spec_merge (F:Nat)(x:GIndex)(at_:Int)(h:IdxM 1000 9000 x)(hF:5000000<F):M.spec_IndexMerge F x at_=some (joinX x at_):=by
 have h':IdxM 1000 10000 x:=h.le (Nat.le_refl _) (by omega)
 unfold M.spec_IndexMerge joinX
 rw [spec_okM F x h' hF,Option.bind_some]
 cases hx:indexS x with
 | false=>rfl
 | true=>
  have hm:=index_m hx h.conf
  have hsl:=hm.segs
  have hw:w64 ((x.Segs.length:Int)-2)=(x.Segs.length:Int)-2:=w64_of ⟨by omega,by omega⟩
  rw [Bool.not_true,cond_false,inS,Option.bind_some,hw,if_pos rfl]
  by_cases hb:(decide (0≤at_)&&decide (at_≤(x.Segs.length:Int)-2))=true
  ·rw [if_pos hb,hb,Bool.not_true,cond_false]
   rw [Bool.and_eq_true,decide_eq_true_iff,decide_eq_true_iff] at hb
   obtain⟨k,rfl⟩:=Int.eq_ofNat_of_zero_le hb.1
   have hk:k+2≤x.Segs.length:=by omega
   have hd:=merge_docs hx k
   have hw2:w64 ((k:Int)+2)=((k+2:Nat):Int):=by rw [w64_of ⟨by omega,by omega⟩];rfl
   have s1:subL x.Segs (k:Int) ((k+2:Nat):Int)=some ((x.Segs.drop k).take 2):=by
    unfold subL
    rw [if_pos ⟨by omega,by omega,by omega⟩]
    simp [List.drop_take]
    omega
   have s2:subL x.Segs 0 (k:Int)=some (x.Segs.take k):=by
    unfold subL
    rw [if_pos ⟨by omega,by omega,by omega⟩]
    simp
   have s3:subL x.Segs ((k+2:Nat):Int) (x.Segs.length:Int)=some (x.Segs.drop (k+2)):=subL_tail hk
   have l1:((x.Segs.drop k).take 2).length≤2:=by rw [List.length_take];omega
   have l2:(x.Segs.take k).length≤5:=by rw [List.length_take];omega
   have l3:(x.Segs.drop (k+2)).length≤5:=by rw [List.length_drop];omega
   have l0:([]:List GLive).length=0:=rfl
   have sub: ∀l∈(x.Segs.drop k).take 2,LiveM 60 l:=fun l hl=>hm.live l (List.mem_of_mem_drop (List.mem_of_mem_take hl))
   rw [hw2,s1,Option.bind_some,spec_docs18 F _ (by show ((x.Segs.drop k).take 2).length≤_;omega) (fun l hl=>?_) (by omega),Option.bind_some,spec_copyX F x h' (by omega),Option.bind_some,s2,Option.bind_some,catLok (by omega),List.nil_append,Option.bind_some,Option.bind_some]
   ·show Option.bind (M.spec_l7Of F x.Conf (insAll (allS ((x.Segs.drop k).take 2)))) _=_
    rw [ins_sort hd,spec_seg F x.Conf _ (index_sort hx).1 (docs_fit hd) (by omega),Option.bind_some,catLok (by simp only [List.length_singleton];omega),Option.bind_some,s3,Option.bind_some,catLok (by simp only [List.length_append,List.length_singleton];omega)]
    rfl
   ·have hl:=sub l hl
    exact⟨by have:=hl.docs.few;omega,by have:=hl.dead;omega,fun d hd=>by have:=hl.docs.doc d hd;exact⟨by have:=this.fields;omega,by have:=this.nums;omega⟩⟩
  ·rw [if_neg hb,Bool.eq_false_iff.2 hb,Bool.not_false,cond_true,spec_copyX F x h' (by omega)];rfl
theorem joinX_m {x:GIndex}{at_:Int}(hc:ConfFit 100 x.Conf):IdxM 5 60 (joinX x at_).1:=by
 unfold joinX
 by_cases h:indexS x=true
 ·rw [if_pos h]
  have hm:=index_m h hc
  split
  ·rename_i hb
   rw [Bool.and_eq_true,decide_eq_true_iff,decide_eq_true_iff] at hb
   obtain⟨k,rfl⟩:=Int.eq_ofNat_of_zero_le hb.1
   have:=hm.segs
   refine⟨hc,?_,fun l hl=>?_⟩
   ·show (x.Segs.take k++[_]++x.Segs.drop (k+2)).length≤5
    simp only [List.length_append,List.length_singleton,List.length_take,List.length_drop];omega
   ·rcases List.mem_append.1 hl with hl | hl
    ·rcases List.mem_append.1 hl with hl | hl
     ·exact hm.live l (List.mem_of_mem_take hl)
     ·rcases List.mem_singleton.1 hl with rfl
      have:=segS_m (c:=x.Conf) (merge_docs h k)
      exact⟨this.docs,this.ents,Nat.zero_le _⟩
    ·exact hm.live l (List.mem_of_mem_drop hl)
  ·exact hm
 ·rw [if_neg h];exact noX_m
def addZ (x:GIndex)(docs:List GDoc):GIndex:=⟨x.Conf,(fullX (docs.foldl (fun y d=>goneX d.Id y) x)).Segs++[⟨segS x.Conf docs,[]⟩]⟩
def addX (x:GIndex)(docs:List GDoc):GIndex×Bool:=if indexS x then (if !docsS docs||((docs.length:Int)==0) then (x,false) else if indexS (addZ x docs) then (addZ x docs,true) else (x,false)) else (noX,false)
theorem gone_conf: ∀(docs:List GDoc) (x:GIndex),(docs.foldl (fun y d=>goneX d.Id y) x).Conf=x.Conf
 | [],_=>rfl
 | d::r,x=>by rw [List.foldl_cons,gone_conf r];rfl
theorem gone_fold {S:Nat}: ∀(docs:List GDoc) {D:Nat} {x:GIndex},IdxM S D x→IdxM S (D+docs.length) (docs.foldl (fun y d=>goneX d.Id y) x)
 | [],_,_,h=>h
 | d::r,D,x,h=>by
  rw [List.foldl_cons]
  exact(gone_fold r (goneX_m h)).le (Nat.le_refl _) (by simp only [List.length_cons];omega)
theorem spec_add (F:Nat)(x:GIndex)(docs:List GDoc)(h:IdxM 1000 9000 x)(hd:DocsFit docs)(hF:5000000<F):M.spec_IndexAdd F x docs=some (addX x docs):=by
 have h':IdxM 1000 10000 x:=h.le (Nat.le_refl _) (by omega)
 have hdl:=hd.few
 unfold M.spec_IndexAdd addX
 rw [spec_okM F x h' hF,Option.bind_some]
 cases hx:indexS x with
 | false=>rfl
 | true=>
  have hm:=index_m hx h.conf
  have hb:((Option.bind (some (docsS docs)) fun r46=>(cond (!r46) (some true) (some ((docs.length:Int)==0)))):Option Bool)=some (!docsS docs||((docs.length:Int)==0)):=by cases docsS docs<;>rfl
  rw [Bool.not_true,cond_false,if_pos rfl,spec_docs F docs hd (by omega),hb,Option.bind_some]
  by_cases hq:(!docsS docs||((docs.length:Int)==0))=true
  ·rw [if_pos hq,hq,cond_true,spec_copyX F x h' (by omega)];rfl
  ·have hds:docsS docs=true:=by
    cases e:docsS docs with
    | true=>rfl
    | false=>rw [e] at hq;exact absurd rfl hq
   rw [if_neg hq,Bool.eq_false_iff.2 hq,cond_false,spec_copyX F x h' (by omega),Option.bind_some]
   have key:=fold_while (xs:=docs) (fun y d=>goneX d.Id y) (fun i y=>IdxM 5 (60+i) y) (fun y=>y) (fun (y:GIndex) (i:Int)=>(i,y)) x (s0:=((0:Int),x)) rfl F (by omega) hm
    (f:=fun (s142:Int×GIndex)=>(cond (decide (s142.1<(docs.length:Int))) ((((getI docs s142.1).bind fun x194=>((M.spec_l18Gone F s142.2 x194.Id).bind fun r212=>(some r212.1))):Option GIndex).bind fun o172=>(some (.inl ((w64 (s142.1+1)),o172)))) (some (.inr s142.2)))) (fun i d y hxd hy=>by
     have hi:=(List.getElem?_eq_some_iff.1 hxd).1
     refine⟨?_,goneX_m hy⟩
     dsimp only
     rw [decide_eq_true (by omega),cond_true,getI_nat',hxd,Option.bind_some,spec_gone F y d.Id (hy.le (by omega) (by omega)) (by omega),Option.bind_some,Option.bind_some,w64_succ' (by omega)]) (fun y _=>by
     dsimp only
     rw [decide_eq_false (by omega)];rfl)
   rw [key.1,Option.bind_some,Option.bind_some]
   have hg:=gone_fold docs hm
   have hgc:=gone_conf docs x
   unfold addZ
   generalize docs.foldl (fun y d=>goneX d.Id y) x=y at *
   rw [spec_full F y (by have:=hg.segs;omega) (by omega),Option.bind_some]
   have hf:=fullX_m hg
   have hfs:=hf.segs
   rw [spec_seg F x.Conf docs (index_sort hx).1 hd (by omega),Option.bind_some,catLok (by simp only [List.length_singleton];omega),Option.bind_some]
   have hz:IdxM 1000 10000 ⟨(fullX y).Conf,(fullX y).Segs++[⟨segS x.Conf docs,[]⟩]⟩:=⟨hf.conf,by simp only [List.length_append,List.length_singleton];omega,fun l hl=>by
    rcases List.mem_append.1 hl with hl | hl
    ·have:=hf.live l hl;exact⟨this.docs,this.ents,by have:=this.dead;omega⟩
    ·rcases List.mem_singleton.1 hl with rfl
     have:=segS_m (c:=x.Conf) hds
     exact⟨this.docs,this.ents,Nat.zero_le _⟩⟩
   rw [spec_okM F _ hz hF,Option.bind_some]
   have ec:(fullX y).Conf=x.Conf:=hgc
   rw [ec]
   cases indexS ⟨x.Conf,(fullX y).Segs++[⟨segS x.Conf docs,[]⟩]⟩ with
   | true=>rfl
   | false=>rw [Bool.not_false,cond_true];rfl
theorem addX_m {x:GIndex}{docs:List GDoc}(hc:ConfFit 100 x.Conf):IdxM 5 60 (addX x docs).1:=by
 unfold addX
 by_cases h:indexS x=true
 ·rw [if_pos h]
  split
  ·exact index_m h hc
  ·split
   ·rename_i hz;exact index_m hz hc
   ·exact index_m h hc
 ·rw [if_neg h];exact noX_m
end Go.Fk
set_option linter.unusedVariables false
namespace Go.Fk
open Go
theorem index_new (F:Nat)(c:GConf)(hc:ConfFit 100 c)(hF:200000<F): ∃x,M.spec_IndexNew F c=some x∧IdxM 5 61 x:=by
 unfold M.spec_IndexNew
 rw [spec_conf F 100 c hc (by omega) (by omega),Option.bind_some]
 cases confS c with
 | false=>exact⟨noX,rfl,noX_m.le (Nat.le_refl _) (by omega)⟩
 | true=>
  rw [Bool.not_true,cond_false,spec_cloneConf F c hc (by omega)]
  exact⟨⟨c,[]⟩,rfl,hc,Nat.zero_le _,fun l hl=>by cases hl⟩
theorem idx_ok (F:Nat)(r:GL30Rd)(hr:RdAt r 10000)(hF:5000000<F): ∃x p,M.spec_l30Index F r=some (x,⟨r.b_,p⟩)∧Drew r p 20000∧IdxM 5 61 x:=by
 obtain⟨h1,h2,h3⟩:=hr
 unfold M.spec_l30Index
 obtain⟨c,p,hc,⟨q0,q1⟩,hcd⟩:=conf_ok F r ⟨h1,h2,by omega⟩
 rw [hc,Option.bind_some]
 dsimp only
 obtain⟨x0,hx0,hm0⟩:=index_new F c hcd.fit (by omega)
 rw [hx0,Option.bind_some]
 obtain⟨n,hn,n0,n1⟩:=pick_ok F ⟨r.b_,p⟩ 7 ⟨h1,by simp only;omega,by simp only;omega⟩
 have n1:=n1 (by decide)
 rw [hn,Option.bind_some]
 dsimp only
 generalize hf:(fun (s99:Int×GL30Rd×GIndex)=>_:Int×GL30Rd×GIndex→Option ((Int×GL30Rd×GIndex)⊕(GL30Rd×GIndex)))=f
 have key: ∀(k:Nat) (x:GIndex) (p:Int) (F':Nat),k+1≤F'→0≤p→p+2010*k≤90000→k≤6→IdxM 5 61 x→∃x' p',whileM f F' ((k:Int),⟨r.b_,p⟩,x)=some (⟨r.b_,p'⟩,x')∧p≤p'∧p'≤p+2010*k∧IdxM 5 61 x':=by
  intro k
  induction k with
  | zero=>
   intro x p F' hF' _ _ _ hm
   obtain⟨F',rfl⟩: ∃G,F'=G+1:=⟨F'-1,by omega⟩
   rw [whileM]
   subst hf
   exact⟨x,p,rfl,by omega,by omega,hm⟩
  | succ k ih=>
   intro x p F' hF' p0 p1 hk hm
   obtain⟨F',rfl⟩: ∃G,F'=G+1:=⟨F'-1,by omega⟩
   obtain⟨a,ha,_,_⟩:=pick_ok F ⟨r.b_,p⟩ 5 ⟨h1,p0,by simp only;omega⟩
   have c3:w64 (((k+1:Nat):Int)-1)=(k:Int):=by rw [w64_of ⟨by omega,by omega⟩];omega
   have hm9:IdxM 1000 9000 x:=hm.le (by omega) (by omega)
   have hstep: ∃y q,f (((k+1:Nat):Int),⟨r.b_,p⟩,x)=some (.inl ((k:Int),⟨r.b_,q⟩,y))∧p≤q∧q≤p+2010∧IdxM 5 61 y:=by
    rw [←hf]
    dsimp only
    rw [decide_eq_true (by omega),cond_true,ha,Option.bind_some]
    dsimp only
    cases a==(0:Int) with
    | true=>
     obtain⟨b,hb,_,_⟩:=pick_ok F ⟨r.b_,p+1⟩ 8 ⟨h1,by simp only;omega,by simp only;omega⟩
     rw [cond_true,hb,Option.bind_some]
     dsimp only
     rw [spec_drop F x _ hm9 hF,Option.bind_some,Option.bind_some,c3]
     exact⟨_,p+1+1,rfl,by omega,by omega,dropX_m hm.conf⟩
    | false=>
     rw [cond_false]
     cases a==(1:Int) with
     | true=>
      obtain⟨b,hb,_,_⟩:=pick_ok F ⟨r.b_,p+1⟩ 3 ⟨h1,by simp only;omega,by simp only;omega⟩
      rw [cond_true,hb,Option.bind_some]
      dsimp only
      rw [spec_merge F x _ hm9 hF,Option.bind_some,Option.bind_some,c3]
      exact⟨_,p+1+1,rfl,by omega,by omega,(joinX_m hm.conf).le (Nat.le_refl _) (by omega)⟩
     | false=>
      obtain⟨ds,q,hds,⟨q0,q1⟩,hdd⟩:=docs_ok F ⟨r.b_,p+1⟩ ⟨h1,by simp only;omega,by simp only;omega⟩ (by omega)
      simp only at q0 q1
      rw [cond_false,hds,Option.bind_some]
      dsimp only
      rw [spec_add F x ds hm9 (hdd.fit (by omega)) hF,Option.bind_some,Option.bind_some,c3]
      exact⟨_,q,rfl,by omega,by omega,(addX_m hm.conf).le (Nat.le_refl _) (by omega)⟩
   obtain⟨y,q,hs,e0,e1,hy⟩:=hstep
   rw [whileM,hs]
   simp only [Option.bind_some,Sum.elim_inl]
   obtain⟨x',p',hw,a1,a2,a3⟩:=ih y q F' (by omega) (by omega) (by omega) (by omega) hy
   exact⟨x',p',hw,by omega,by omega,a3⟩
 obtain⟨k,rfl⟩:=Int.eq_ofNat_of_zero_le n0
 obtain⟨x',p',hw,a1,a2,a3⟩:=key k x0 (p+1) F (by omega) (by omega) (by omega) (by omega) hm0
 rw [hw]
 exact⟨x',p',rfl,⟨by omega,by omega⟩,a3⟩
structure LiveN (D:Nat)(l:GLive):Prop where
 docs:DocsFit l.Seg.Docs
 dead:l.Dead.length≤D
 ents:Fits 10001 l.Seg.Entries
structure IdxN (S D:Nat)(x:GIndex):Prop where
 conf:ConfFit 100 x.Conf
 segs:x.Segs.length≤S
 live: ∀l∈x.Segs,LiveN D l
theorem IdxN.mid {S D:Nat}{x:GIndex}(h:IdxN S D x)(hS:S≤1000)(hD:D≤10000):IndexMid x:=
 ⟨h.conf.le (by omega),by have:=h.segs;omega,fun l hl=>⟨⟨by have:=(h.live l hl).docs.few;omega,fun d hd=>((h.live l hl).docs.doc d hd).big⟩,by have:=(h.live l hl).dead;omega⟩⟩
theorem set_n {S D:Nat}{x:GIndex}{k:Nat}{l:GLive}(h:IdxN S D x)(hl:LiveN D l):IdxN S D ⟨x.Conf,x.Segs.set k l⟩:=
 ⟨h.conf,by rw [List.length_set];exact h.segs,fun l' hl'=>by
  rcases List.mem_or_eq_of_mem_set hl' with h1 | rfl
  ·exact h.live l' h1
  ·exact hl⟩
theorem anyIdx_ok (F:Nat)(r:GL30Rd)(hr:RdAt r 10000)(hF:5000000<F): ∃x p,M.spec_l30AnyIndex F r=some (x,⟨r.b_,p⟩)∧Drew r p 20010∧IdxN 6 62 x:=by
 obtain⟨h1,h2,h3⟩:=hr
 unfold M.spec_l30AnyIndex
 obtain⟨x,p,hx,⟨q0,q1⟩,hm⟩:=idx_ok F r ⟨h1,h2,h3⟩ hF
 have hn:IdxN 6 62 x:=⟨hm.conf,by have:=hm.segs;omega,fun l hl=>⟨(hm.live l hl).docs,by have:=(hm.live l hl).dead;omega,(hm.live l hl).ents.le (by omega)⟩⟩
 have hs:=hm.segs
 rw [hx,Option.bind_some]
 dsimp only
 rw [spec_copyX F x (hm.le (by omega) (by omega)) (by omega),Option.bind_some]
 by_cases h0:(0:Int)<(x.Segs.length:Int)
 case neg=>rw [decide_eq_false h0];exact⟨x,p,rfl,⟨by omega,by omega⟩,hn⟩
 rw [decide_eq_true h0,cond_true]
 obtain⟨a,ha,a0,a1⟩:=pick_ok F ⟨r.b_,p⟩ (x.Segs.length:Int) ⟨h1,by simp only;omega,by simp only;omega⟩
 have a1:=a1 (by omega)
 obtain⟨k,rfl⟩:=Int.eq_ofNat_of_zero_le a0
 obtain⟨l,hl⟩: ∃l,x.Segs[k]? =some l:=⟨_,List.getElem?_eq_getElem (show k<x.Segs.length by omega)⟩
 have hln:=hn.live l (List.mem_of_getElem? hl)
 have hlm:=hm.live l (List.mem_of_getElem? hl)
 obtain⟨b,hb,_,_⟩:=pick_ok F ⟨r.b_,p+1⟩ 16 ⟨h1,by simp only;omega,by simp only;omega⟩
 rw [ha,Option.bind_some]
 dsimp only
 rw [hb,Option.bind_some]
 dsimp only
 have hdd:=hlm.dead
 have hee:=hlm.ents
 cases b==(0:Int) with
 | true=>
  obtain⟨o,_,ho⟩:=one_ok F ⟨r.b_,p+1+1⟩ [1,77] ⟨h1,by simp only;omega,by simp only;omega⟩ (by simp)
  rw [cond_true,getI_nat',hl,Option.bind_some,ho,Option.bind_some]
  dsimp only
  rw [catLok (by simp only [List.length_singleton];omega),Option.bind_some,Option.bind_some]
  exact⟨_,p+1+1+1,rfl,⟨by omega,by omega⟩,set_n hn ⟨hlm.docs,by simp only [List.length_append,List.length_singleton];omega,hln.ents⟩⟩
 | false=>
  rw [cond_false]
  cases b==(1:Int) with
  | true=>
   rw [cond_true,getI_nat',hl,Option.bind_some,catLok (by simp only [List.length_singleton];omega),Option.bind_some]
   refine⟨_,p+1+1,rfl,⟨by omega,by omega⟩,hn.conf,by simp only [List.length_append,List.length_singleton];omega,fun l' hl'=>?_⟩
   rcases List.mem_append.1 hl' with h | h
   ·exact hn.live l' h
   ·rcases List.mem_singleton.1 h with rfl
    exact hln
  | false=>
   rw [cond_false]
   cases b==(2:Int) with
   | true=>
    rw [cond_true,getI_nat',hl,Option.bind_some,catLok (by have:=hee.1;simp only [List.length_singleton];omega),Option.bind_some,Option.bind_some]
    refine⟨_,p+1+1,rfl,⟨by omega,by omega⟩,set_n hn ⟨hlm.docs,hln.dead,?_,fun e he=>?_⟩⟩
    ·have:=hee.1;simp only [List.length_append,List.length_singleton];omega
    ·rcases List.mem_append.1 he with h | h
     ·exact hln.ents.2 e h
     ·rcases List.mem_singleton.1 h with rfl
      exact⟨Nat.zero_le _,fun p hp=>by cases hp⟩
   | false=>exact⟨x,p+1+1,rfl,⟨by omega,by omega⟩,hn⟩
end Go.Fk
