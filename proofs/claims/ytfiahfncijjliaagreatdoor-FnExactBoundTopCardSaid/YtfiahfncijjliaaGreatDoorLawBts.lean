import Derived.Test.YtfiahfncijjliaaGreatDoorLawPts
import Derived.Test.YtfiahfncijjliaaGreatDoorLawTopH
import Derived.Test.YtfiahfncijjliaaGreatDoorLawRds
/-
  The best hits of some terms, with bounds: the program's and the reference's.
-/
set_option linter.unusedVariables false
set_option maxRecDepth 100000
namespace Go.Fk
open Go
theorem word_text {w:Str}(h:wordS w=true):textS w=true:=by
 unfold wordS at h
 unfold textS
 simp only [Bool.and_eq_true,decide_eq_true_iff,List.all_eq_true] at h ⊢
 refine⟨fun b hb=>?_,by omega⟩
 have:=h.1 b hb
 unfold wordB at this
 unfold textB
 simp only [Bool.or_eq_true,Bool.and_eq_true,decide_eq_true_iff,Bool.not_eq_true',Bool.or_eq_false_iff,decide_eq_false_iff_not,UInt8.le_iff_toNat_le,UInt8.lt_iff_toNat_lt] at this ⊢
 have e1:(97:UInt8).toNat=97:=rfl
 have e2:(122:UInt8).toNat=122:=rfl
 have e3:(48:UInt8).toNat=48:=rfl
 have e4:(57:UInt8).toNat=57:=rfl
 have e5:(32:UInt8).toNat=32:=rfl
 have e6:(126:UInt8).toNat=126:=rfl
 omega
def termS (c:GConf)(w:Str):Str:=if wordS w&&confS c then ((termsS c w)[0]?).elim [] (·.Text) else []
theorem impl_termOf (F:Nat)(c:GConf)(w:Str)(hc:c.Stops.length≤2000000)(hF:1000<F):M.impl_TermOf F c w=some (termS c w):=by
 unfold M.impl_TermOf termS
 rw [impl_word,Option.bind_some]
 cases hw:wordS w with
 | false=>rfl
 | true=>
  have hl:=word_le hw
  rw [Bool.not_true,cond_false,impl_terms F c w (by omega) hc (by omega),Option.bind_some,word_text hw]
  cases confS c with
  | false=>rfl
  | true=>
   simp only [Bool.and_self,if_true]
   cases ht:termsS c w with
   | nil=>rfl
   | cons x r=>
    rw [beq_eq_false_iff_ne.2 (by simp only [List.length_cons];omega),cond_false,show ((0:Int))=((0:Nat):Int) from rfl,getI_nat'];rfl
def newT (c:GConf)(acc:List Str)(w:Str):List Str:=if !(termS c w==[])&& !acc.any (· ==termS c w) then acc++[termS c w] else acc
def uniqT (c:GConf)(words:List Str):List Str:=words.foldl (newT c) []
theorem uniq_len (c:GConf): ∀(words acc:List Str),(words.foldl (newT c) acc).length≤acc.length+words.length
 | [],acc=>by simp
 | w::r,acc=>by
  rw [List.foldl_cons]
  have:=uniq_len c r (newT c acc w)
  have h2:(newT c acc w).length≤acc.length+1:=by unfold newT;split<;>simp
  simp only [List.length_cons];omega
def bndS (c:GConf)(s:GSeg)(n:Str)(ts:List Str)(id:Int):Int:=(ts.map fun t=>boundS (blk (psS c s n t)) id).sum
def sumS (c:GConf)(s:GSeg)(n:Str)(ts:List Str)(id:Int):Int:=(ts.map fun t=>((pointsS c s n t id:Nat):Int)).sum
def skipS (bnd:Int)(hits:List GHit)(most:Nat):Bool:=(bnd==0)||(decide (hits.length=most)&&(hits[most-1]?).elim false fun h=>decide (bnd≤h.Points))
def fastStep (c:GConf)(s:GSeg)(n:Str)(ts:List Str)(most:Nat)(st:List GHit×Nat)(d:GDoc):List GHit×Nat:=
 if skipS (bndS c s n ts d.Id) st.1 most then st else (if 0<sumS c s n ts d.Id then (insH ⟨d.Id,sumS c s n ts d.Id⟩ st.1).take most else st.1,st.2+1)
def fastS (c:GConf)(s:GSeg)(n:Str)(ts:List Str)(most:Nat):List GHit×Nat:=s.Docs.foldl (fastStep c s n ts most) ([],0)
theorem bound_rng {ps:List (Int×Nat)}(hb: ∀p∈ps,p.2≤1000000000)(id:Int):0≤boundS (blk ps) id∧boundS (blk ps) id≤1000000000:=by
 have key: ∀(ps:List (Int×Nat)),(∀p∈ps,p.2≤1000000000)→∀b∈blk ps,0≤b.Most∧b.Most≤1000000000:=fun ps=>by
  induction ps using blk.induct with
  | case1=>intro _ b h;cases h
  | case2 a=>
   intro h b hb
   rcases List.mem_singleton.1 hb with rfl
   have:=h a (by simp)
   simp only;omega
  | case3 a a' r ih=>
   intro h b hb
   rw [blk] at hb
   rcases List.mem_cons.1 hb with rfl | hb
   ·have h1:=h a (by simp)
    have h2:=h a' (by simp)
    simp only;omega
   ·exact ih (fun p hp=>h p (by simp [hp])) b hb
 unfold boundS
 cases hf:(blk ps).find? fun b=>decide (id≤b.Last) with
 | none=>simp only [Option.elim_none];omega
 | some b=>exact key ps hb b (List.mem_of_find?_eq_some hf)
theorem ps_rng {c:GConf}{s:GSeg}(ho:segOk c s=true)(n t:Str): ∀p∈psS c s n t,p.2≤1000000000:=fun p hp=>by
 unfold psS at hp
 obtain⟨q,_,rfl⟩:=List.mem_map.1 hp
 exact points_le c s n t q.Doc ho
theorem sum_rng {α:Type}{f:α→Int}{B:Int}: ∀{l:List α},(∀x∈l,0≤f x∧f x≤B)→0≤(l.map f).sum∧(l.map f).sum≤l.length*B
 | [],_=>by simp
 | x::l,h=>by
  have h1:=h x (by simp)
  have h2:=sum_rng (l:=l) fun y hy=>h y (by simp [hy])
  rw [List.map_cons,List.sum_cons,List.length_cons]
  have:((l.length+1:Nat):Int)*B=(l.length:Int)*B+B:=by push_cast;rw [Int.add_mul,Int.one_mul]
  rw [this];omega
structure HitsTo (l:List GHit)(id:Int)(most:Nat):Prop where
 hits:Hits l
 docs: ∀h∈l,h.Doc<id
 most:l.length≤most
theorem HitsTo.more {l:List GHit}{a b:Int}{m:Nat}(h:HitsTo l a m)(hab:a≤b):HitsTo l b m:=⟨h.hits,fun x hx=>by have:=h.docs x hx;omega,h.most⟩
theorem HitsTo.push {l:List GHit}{id:Int}{m:Nat}{p:Int}(h:HitsTo l id m)(hm:m≤16)(hid:1≤id∧id≤9999)(hp:1≤p):HitsTo ((insH ⟨id,p⟩ l).take m) (id+1) m:=by
 have hnot:(⟨id,p⟩:GHit)∉l:=fun hx=>by have:=h.docs _ hx;simp only at this;omega
 have hsub: ∀x∈(insH ⟨id,p⟩ l).take m,x=⟨id,p⟩∨x∈l:=fun x hx=>mem_insH.1 (List.mem_of_mem_take hx)
 have hsorted:=insH_sorted h.hits.sorted hnot
 refine⟨⟨fun x hx=>?_,List.Pairwise.sublist (List.take_sublist _ _) hsorted,?_,?_⟩,fun x hx=>?_,by rw [List.length_take];omega⟩
 ·rcases hsub x hx with rfl | hx
  ·exact⟨hid,hp⟩
  ·exact h.hits.rng x hx
 ·have hdl: ∀{l:List GHit},(l.Pairwise fun a b=>a.Doc≠b.Doc)→(∀h∈l,h.Doc<id)→(insH ⟨id,p⟩ l).Pairwise fun a b=>a.Doc≠b.Doc:=fun {l}=>by
   induction l with
   | nil=>intro _ _;exact List.pairwise_singleton _ _
   | cons y r ih=>
    intro hpw hlt
    have hc:=List.pairwise_cons.1 hpw
    have hy:=hlt y (by simp)
    unfold insH
    split
    ·refine List.pairwise_cons.2 ⟨fun z hz=>?_,ih hc.2 fun z hz=>hlt z (by simp [hz])⟩
     rcases mem_insH.1 hz with rfl | hz
     ·simp only;omega
     ·exact hc.1 z hz
    ·refine List.pairwise_cons.2 ⟨fun z hz=>?_,hpw⟩
     have:=hlt z hz
     simp only;omega
  exact List.Pairwise.sublist (List.take_sublist _ _) (hdl h.hits.docs h.docs)
 ·rw [List.length_take];omega
 ·rcases hsub x hx with rfl | hx
  ·simp only;omega
  ·have:=h.docs x hx;omega
theorem impl_push (F:Nat)(l:List GHit)(id p:Int)(m:Nat)(h:HitsTo l id m)(hm:1≤m∧m≤16)(hid:1≤id∧id≤9999)(hp:1≤p):M.impl_TopPush F l ⟨id,p⟩ (m:Int)=some ((insH ⟨id,p⟩ l).take m):=by
 have hl:=h.most
 have hdoc:docIn l id=false:=by
  unfold docIn
  rw [List.any_eq_false]
  intro x hx hk
  have:=h.docs x hx
  have:=eq_of_beq hk
  omega
 have hnd:l.Nodup:=nodup_docs h.hits.docs
 have hnot:(⟨id,p⟩:GHit)∉l:=fun hx=>by have:=h.docs _ hx;simp only at this;omega
 have hnd2:(l++[(⟨id,p⟩:GHit)]).Nodup:=by
  rw [List.nodup_append]
  exact⟨hnd,by simp,fun a ha b hb e=>hnot (by rw [List.mem_singleton.1 hb] at e;exact e▸ha)⟩
 have hsame:sortH l=l:=sorted_eq (sortH_spec hnd).1 h.hits.sorted (sortH_spec hnd).2.1
 unfold M.impl_TopPush
 rw [implHits F l (by omega),Option.bind_some,(hits_iff l).2 h.hits,Bool.not_true,cond_false,withinS,decide_eq_true (by omega),decide_eq_true (by omega),Option.bind_some,Bool.true_and,Bool.not_true,cond_false,Option.bind_some,decide_eq_false (by omega),cond_false,catLok (by simp only [List.length_nil];omega),Option.bind_some,List.nil_append]
 dsimp only
 rw [hasDoc_ok,Option.bind_some,hdoc,cond_false,withinS,decide_eq_true (by omega),decide_eq_true (by omega),Option.bind_some,Bool.true_and,Bool.not_true,cond_false,Option.bind_some,decide_eq_false (by omega),cond_false,catLok (by rw [List.length_singleton];omega),Option.bind_some,first_ok F _ m hnd2 (by rw [List.length_append,List.length_singleton];omega),sortH_snoc,hsame];rfl
end Go.Fk
set_option linter.unusedVariables false
set_option maxRecDepth 100000
namespace Go.Fk
open Go
theorem bnd_rng {c:GConf}{s:GSeg}(ho:segOk c s=true)(n:Str)(ts:List Str)(id:Int):0≤bndS c s n ts id∧bndS c s n ts id≤ts.length*1000000000:=
 sum_rng fun t _=>bound_rng (ps_rng ho n t) id
theorem sums_rng {c:GConf}{s:GSeg}(ho:segOk c s=true)(n:Str)(ts:List Str)(id:Int):0≤sumS c s n ts id∧sumS c s n ts id≤ts.length*1000000000:=
 sum_rng fun t _=>by have:=points_le c s n t id ho;omega
theorem map_flat {α β:Type}(f:α→β): ∀l:List α,(l.flatMap fun x=>[f x])=l.map f
 | []=>rfl
 | x::l=>by rw [List.flatMap_cons,map_flat f l];rfl
theorem blk_short {c:GConf}{s:GSeg}(ho:segOk c s=true)(n t:Str):(blk (psS c s n t)).length≤10000:=by
 have:=(postsAt_fits ho n t).1
 rw [blk_len]
 unfold psS
 rw [List.length_map];omega
theorem snoc_sum {α:Type}(f:α→Int)(l:List α)(i:Nat)(hi:i<l.length):((l.take (i+1)).map f).sum=((l.take i).map f).sum+f l[i]:=by
 rw [List.take_succ_eq_append_getElem hi,List.map_append,List.sum_append];simp
theorem impl_sums {c:GConf}{s:GSeg}(n:Str)(ts:List Str)(id:Int)(ho:segOk c s=true)(hl:ts.length≤100){f:Nat→Int×Int→Option (Int×Int)}
  (hf: ∀(i:Nat) t (a b:Int),ts[i]? =some t→f i (a,b)=some (w64 (a+boundS (blk (psS c s n t)) id),w64 (b+((pointsS c s n t id:Nat):Int)))):forE f ts.length 0 ((0:Int),(0:Int))=some (bndS c s n ts id,sumS c s n ts id):=by
 obtain⟨r,hr,he⟩:=forE_run' (σ:=Int×Int) (f:=f) (fun i st=>st=(bndS c s n (ts.take i) id,sumS c s n (ts.take i) id)) ts.length (fun i st hi hst=>by
  subst hst
  have h1:=bnd_rng ho n (ts.take (i+1)) id
  have h2:=sums_rng ho n (ts.take (i+1)) id
  have h3:(ts.take (i+1)).length≤100:=by rw [List.length_take];omega
  have e1:bndS c s n (ts.take (i+1)) id=bndS c s n (ts.take i) id+boundS (blk (psS c s n ts[i])) id:=snoc_sum _ ts i hi
  have e2:sumS c s n (ts.take (i+1)) id=sumS c s n (ts.take i) id+((pointsS c s n ts[i] id:Nat):Int):=snoc_sum _ ts i hi
  refine⟨_,hf i _ _ _ (List.getElem?_eq_getElem hi),?_⟩
  rw [e1,e2,w64_of ⟨by omega,by omega⟩,w64_of ⟨by omega,by omega⟩]) ts.length 0 ((0:Int),(0:Int)) (by omega) rfl
 rw [hr,he,List.take_length]
theorem skip_ok (bnd:Int)(hits:List GHit)(m:Nat)(hm:1≤m)(hl:hits.length≤m)(hb:m≤16):(cond (bnd==(0:Int)) (some true) (cond ((hits.length:Int)==(m:Int)) (Option.bind (getI hits (w64 ((hits.length:Int)-(1:Int)))) fun x439=>(some (decide (bnd≤x439.Points)))) (some false)))=some (skipS bnd hits m):=by
 unfold skipS
 cases bnd==0 with
 | true=>rfl
 | false=>
  rw [cond_false,Bool.false_or]
  by_cases h:hits.length=m
  ·rw [beq_iff_eq.2 (by omega),cond_true,w64_pred (by omega) (by omega),getI_nat',decide_eq_true h,Bool.true_and,h,List.getElem?_eq_getElem (show m-1<hits.length by omega)];rfl
  ·rw [beq_eq_false_iff_ne.2 (by omega),decide_eq_false h];rfl
structure FastInv (docs:List GDoc)(m i:Nat)(st:List GHit×Nat):Prop where
 to: ∀j,(hj:j<docs.length)→i≤j→HitsTo st.1 docs[j].Id m
 few:st.1.length≤m
 less:st.1.length≤st.2
 looks:st.2≤i
theorem fast_step {c:GConf}{s:GSeg}{n:Str}{ts:List Str}{m i:Nat}{st:List GHit×Nat}(hd:docsS s.Docs=true)(hm:1≤m∧m≤16)(hi:i<s.Docs.length)(h:FastInv s.Docs m i st):FastInv s.Docs m (i+1) (fastStep c s n ts m st s.Docs[i]):=by
 obtain⟨i1,i2,i3⟩:=docs_ids hd
 have hid:=i2 _ (List.getElem_mem hi)
 have hup: ∀j,(hj:j<s.Docs.length)→i+1≤j→s.Docs[i].Id+1≤s.Docs[j].Id:=fun j hj hij=>by
  have:=List.pairwise_iff_getElem.1 i3 i j hi hj (by omega)
  omega
 unfold fastStep
 split
 ·exact⟨fun j hj hij=>h.to j hj (by omega),h.few,h.less,by have:=h.looks;omega⟩
 ·by_cases hp:0<sumS c s n ts s.Docs[i].Id
  ·rw [if_pos hp]
   have hpu:=(h.to i hi (Nat.le_refl _)).push hm.2 hid (show 1≤sumS c s n ts s.Docs[i].Id by omega)
   refine⟨fun j hj hij=>hpu.more (hup j hj hij),hpu.most,?_,?_⟩
   ·show ((insH _ st.1).take m).length≤st.2+1
    rw [List.length_take,insH_len]
    have:=h.less;omega
   ·show st.2+1≤i+1
    have:=h.looks;omega
  ·rw [if_neg hp]
   exact⟨fun j hj hij=>h.to j hj (by omega),h.few,by have:=h.less;show st.1.length≤st.2+1;omega,by have:=h.looks;show st.2+1≤i+1;omega⟩
theorem fast_start (docs:List GDoc)(m:Nat):FastInv docs m 0 ([],0):=
 ⟨fun j hj _=>⟨⟨fun h hh=>(by cases hh),List.Pairwise.nil,List.Pairwise.nil,Nat.zero_le _⟩,fun h hh=>(by cases hh),Nat.zero_le _⟩,Nat.zero_le _,Nat.le_refl _,Nat.le_refl _⟩
theorem fast_at {c:GConf}{s:GSeg}(n:Str)(ts:List Str){m:Nat}(hd:docsS s.Docs=true)(hm:1≤m∧m≤16): ∀i,i≤s.Docs.length→FastInv s.Docs m i ((s.Docs.take i).foldl (fastStep c s n ts m) ([],0))
 | 0,_=>fast_start _ _
 | i+1,h=>by
  rw [List.take_succ_eq_append_getElem (show i<s.Docs.length by omega),List.foldl_append]
  exact fast_step hd hm (by omega) (fast_at n ts hd hm i (by omega))
theorem fast_inv {c:GConf}{s:GSeg}(n:Str)(ts:List Str){m:Nat}(hd:docsS s.Docs=true)(hm:1≤m∧m≤16):FastInv s.Docs m s.Docs.length (fastS c s n ts m):=by
 have:=fast_at (c:=c) n ts hd hm s.Docs.length (Nat.le_refl _)
 rw [List.take_length] at this
 exact this
def boundTopS (c:GConf)(s:GSeg)(n:Str)(words:List Str)(most:Int):List GHit×Int:=
 if (segOk c s&&(wordS n&&((decide (1≤(words.length:Int))&&decide ((words.length:Int)≤4))&&(decide (1≤most)&&decide (most≤16)))))&&words.all wordS then ((fastS c s n (uniqT c words) most.toNat).1,((fastS c s n (uniqT c words) most.toNat).2:Int)) else ([], -1)
theorem contains_str (F:Nat)(xs:List Str)(v:Str):M.slices_Contains_string F xs v=some (xs.any (· ==v)):=impl_contains F xs v
theorem btLoop {c:GConf}{s:GSeg}(n:Str)(ts:List Str){m:Nat}(k2:docsS s.Docs=true)(hm:1≤m∧m≤16){f:Nat→List GHit×Int→Option (List GHit×Int)}
  (hf: ∀(i:Nat) d hits (looks:Nat),s.Docs[i]? =some d→i<s.Docs.length→(1≤d.Id∧d.Id≤9999)→HitsTo hits d.Id m→looks≤i→f i (hits,(looks:Int))=some ((fastStep c s n ts m (hits,looks) d).1,(((fastStep c s n ts m (hits,looks) d).2:Nat):Int))):
  forE f s.Docs.length 0 (([]:List GHit),(0:Int))=some ((fastS c s n ts m).1,(((fastS c s n ts m).2:Nat):Int)):=by
 obtain⟨r,hr,he⟩:=forE_run' (σ:=List GHit×Int) (f:=f) (fun i st=>st=(((s.Docs.take i).foldl (fastStep c s n ts m) ([],0)).1,((((s.Docs.take i).foldl (fastStep c s n ts m) ([],0)).2:Nat):Int))) s.Docs.length (fun i st hi hst=>by
  subst hst
  have hinv:=fast_at (c:=c) n ts k2 hm i (by omega)
  have hid:=(docs_ids k2).2.1 _ (List.getElem_mem hi)
  refine⟨_,hf i s.Docs[i] _ _ (List.getElem?_eq_getElem hi) hi hid (hinv.to i hi (Nat.le_refl _)) hinv.looks,?_⟩
  rw [List.take_succ_eq_append_getElem hi,List.foldl_append];rfl) s.Docs.length 0 (([]:List GHit),(0:Int)) (by omega) rfl
 rw [hr,he,List.take_length];rfl
end Go.Fk
set_option linter.unusedVariables false
set_option maxRecDepth 100000
namespace Go.Fk
open Go
theorem while_maps {c:GConf}{s:GSeg}{n:Str}{ts:List Str}(hl:ts.length≤100)(F:Nat)(hF:1000<F){f:List (List GBlock)×Int→Option ((List (List GBlock)×Int)⊕List (List GBlock))}
  (hf: ∀(i:Nat) t acc,ts[i]? =some t→acc.length≤100→f (acc,(i:Int))=some (.inl (acc++[blk (psS c s n t)],((i+1:Nat):Int))))(h0: ∀acc,f (acc,(ts.length:Int))=some (.inr acc)):
  whileM f F (([]:List (List GBlock)),(0:Int))=some (ts.map fun t=>blk (psS c s n t)):=by
 have h:=fold_while (xs:=ts) (fun acc t=>acc++[blk (psS c s n t)]) (fun i acc=>acc=(ts.take i).map fun t=>blk (psS c s n t)) (fun acc=>acc) (fun acc i=>(acc,i)) (f:=f) (s0:=(([]:List (List GBlock)),(0:Int))) [] rfl F (by omega) (by simp) (fun i t acc hx hacc=>?_) (fun acc _=>h0 acc)
 ·rw [h.1,h.2,List.take_length]
 ·have hi:=(List.getElem?_eq_some_iff.1 hx).1
  refine⟨hf i t acc hx (by rw [hacc,List.length_map,List.length_take];omega),?_⟩
  have e:ts[i]=t:=(List.getElem?_eq_some_iff.1 hx).2
  rw [hacc,List.take_succ_eq_append_getElem hi,List.map_append,e];rfl
theorem while_sum {ts:List Str}(g:Str→Int)(B:Int)(hB:B≤1000000000)(hg: ∀t∈ts,0≤g t∧g t≤B)(hl:ts.length≤100)(F:Nat)(hF:1000<F){σ σ':Type}(mk:Int→Int→σ)(e:Int→σ'){f:σ→Option (σ⊕σ')}
  (hf: ∀(i:Nat) t a,ts[i]? =some t→f (mk a (i:Int))=some (.inl (mk (w64 (a+g t)) ((i+1:Nat):Int))))(h0: ∀a,f (mk a (ts.length:Int))=some (.inr (e a))):
  whileM f F (mk 0 0)=some (e (ts.map g).sum):=by
 have h:=fold_while (xs:=ts) (fun a t=>a+g t) (fun i a=>a=((ts.take i).map g).sum) e (fun a i=>mk a i) (f:=f) (s0:=mk 0 0) 0 rfl F (by omega) (by simp) (fun i t a hx ha=>?_) (fun a _=>h0 a)
 ·rw [h.1,h.2,List.take_length]
 ·have hi:=(List.getElem?_eq_some_iff.1 hx).1
  have et:ts[i]=t:=(List.getElem?_eq_some_iff.1 hx).2
  have e1:((ts.take (i+1)).map g).sum=((ts.take i).map g).sum+g t:=by rw [←et];exact snoc_sum g ts i hi
  have hr:=sum_rng (f:=g) (B:=B) (l:=ts.take (i+1)) fun x hx=>hg x (List.mem_of_mem_take hx)
  have hl2:((ts.take (i+1)).length:Int)≤100:=by rw [List.length_take];omega
  have hb:((ts.take (i+1)).length:Int)*B≤100*1000000000:=by
   have h0:0≤B:=by have:=hg t (List.mem_of_getElem? hx);omega
   exact Int.mul_le_mul hl2 hB h0 (by omega)
  refine⟨?_,by rw [e1,←ha]⟩
  rw [hf i t a hx,w64_of ⟨by rw [ha,←e1];omega,by rw [ha,←e1];omega⟩]
theorem spec_most (F:Nat)(l:List GBlock)(id:Int)(hl:l.length≤100000)(hF:100000<F):M.spec_l14Most F l id=some (boundS l id):=by
 unfold M.spec_l14Most boundS
 rw [find_while (xs:=l) (fun b=>decide (id≤b.Last)) (fun b=>(.inr b.Most:Unit⊕Int)) (e:=.inl ()) F (by omega) (fun i x hx=>?_) ?_]
 ·cases l.find? (fun b=>decide (id≤b.Last))<;>rfl
 ·rw [decide_eq_false (by omega)];rfl
 ·have hi:=(List.getElem?_eq_some_iff.1 hx).1
  rw [decide_eq_true (by omega),cond_true,getI_nat',hx,Option.bind_some,Option.bind_some,w64_succ' (by omega)]
  cases decide (id≤x.Last)<;>rfl
theorem skip_spec (bnd:Int)(hits:List GHit)(m:Nat)(hm:1≤m)(hl:hits.length≤m)(hb:m≤16):(cond (bnd==(0:Int)) (some true) (cond ((hits.length:Int)==(m:Int)) (Option.bind (getI hits (w64 ((m:Int)-(1:Int)))) fun x439=>(some (decide (bnd≤x439.Points)))) (some false)))=some (skipS bnd hits m):=by
 unfold skipS
 cases bnd==0 with
 | true=>rfl
 | false=>
  rw [cond_false,Bool.false_or]
  by_cases h:hits.length=m
  ·rw [beq_iff_eq.2 (by omega),cond_true,w64_pred (by omega) (by omega),getI_nat',decide_eq_true h,Bool.true_and,List.getElem?_eq_getElem (show m-1<hits.length by omega)];rfl
  ·rw [beq_eq_false_iff_ne.2 (by omega),decide_eq_false h];rfl
theorem btWhile {c:GConf}{s:GSeg}(n:Str)(ts:List Str){m:Nat}(k2:docsS s.Docs=true)(hm:1≤m∧m≤16)(F:Nat)(hF:1000<F){f:List GHit×Int×Int→Option ((List GHit×Int×Int)⊕(List GHit×Int))}
  (hf: ∀(i:Nat) d hits (looks:Nat),s.Docs[i]? =some d→i<s.Docs.length→i<16→(1≤d.Id∧d.Id≤9999)→HitsTo hits d.Id m→looks≤i→f (hits,(looks:Int),(i:Int))=some (.inl ((fastStep c s n ts m (hits,looks) d).1,(((fastStep c s n ts m (hits,looks) d).2:Nat):Int),((i+1:Nat):Int))))
  (h0: ∀hits looks,f (hits,looks,(s.Docs.length:Int))=some (.inr (hits,looks))):
  whileM f F (([]:List GHit),(0:Int),(0:Int))=some ((fastS c s n ts m).1,(((fastS c s n ts m).2:Nat):Int)):=by
 have hdl:=(docs_ids k2).1
 obtain⟨r,hr,he⟩:=whileM_run (σ:=List GHit×Int×Int) (τ:=List GHit×Int) (f:=f) (Post:=fun t=>t=((fastS c s n ts m).1,(((fastS c s n ts m).2:Nat):Int))) (fun i st=>st=(((s.Docs.take i).foldl (fastStep c s n ts m) ([],0)).1,((((s.Docs.take i).foldl (fastStep c s n ts m) ([],0)).2:Nat):Int),(i:Int))) s.Docs.length (fun i st hi hst=>by
  subst hst
  have hinv:=fast_at (c:=c) n ts k2 hm i (by omega)
  have hid:=(docs_ids k2).2.1 _ (List.getElem_mem hi)
  refine .inl ⟨_,hf i s.Docs[i] _ _ (List.getElem?_eq_getElem hi) hi (by omega) hid (hinv.to i hi (Nat.le_refl _)) hinv.looks,?_⟩
  rw [List.take_succ_eq_append_getElem hi,List.foldl_append];rfl) (fun st hst=>by
  subst hst
  refine⟨_,h0 _ _,?_⟩
  rw [List.take_length];rfl) s.Docs.length 0 (([]:List GHit),(0:Int),(0:Int)) F (by omega) (by omega) rfl
 rw [hr,he]
theorem spec_fast (F:Nat)(c:GConf)(s:GSeg)(n:Str)(ts:List Str)(m:Nat)(ho:segOk c s=true)(hm:1≤m∧m≤16)(hl:ts.length≤100)(hF:1000000000<F):M.spec_l14Fast F c s n ts (m:Int)=some ((fastS c s n ts m).1,(((fastS c s n ts m).2:Nat):Int)):=by
 obtain⟨k1,k2,k3⟩:=seg_is ho
 have hdl:=(docs_ids k2).1
 unfold M.spec_l14Fast
 rw [while_maps (c:=c) (s:=s) (n:=n) hl F (by omega) (fun i t acc hx hacc=>?_) (fun acc=>?_),Option.bind_some,Option.bind_some]
 ·rw [btWhile (c:=c) (s:=s) n ts k2 hm F (by omega) (fun i d hits looks hx hi h16 hid hto hlk=>?_) (fun hits looks=>?_),Option.bind_some,Option.bind_some]
  ·dsimp only
   rw [decide_eq_true (by omega),cond_true,getI_nat',hx,Option.bind_some]
   rw [while_sum (fun t=>boundS (blk (psS c s n t)) d.Id) 1000000000 (by omega) (fun t _=>bound_rng (ps_rng ho n t) _) hl F (by omega) (fun a i=>(a,i)) (fun a=>a) (fun k t a hx=>by
    have hk:=(List.getElem?_eq_some_iff.1 hx).1
    dsimp only
    rw [decide_eq_true (by omega),cond_true,getI_nat',List.getElem?_map,hx,Option.map_some,Option.bind_some,spec_most F _ _ (by have:=blk_short ho n t;omega) (by omega),Option.bind_some,w64_succ' (by omega)]) (fun a=>by
    dsimp only
    rw [decide_eq_false (by omega)];rfl),Option.bind_some,Option.bind_some]
   rw [show (ts.map fun t=>boundS (blk (psS c s n t)) d.Id).sum=bndS c s n ts d.Id from rfl,skip_spec _ hits m hm.1 hto.most hm.2,Option.bind_some,w64_succ' (by omega)]
   unfold fastStep
   dsimp only
   cases skipS (bndS c s n ts d.Id) hits m with
   | true=>rfl
   | false=>
    rw [cond_false,if_neg (by simp)]
    rw [while_sum (fun t=>((pointsS c s n t d.Id:Nat):Int)) 1000000000 (by omega) (fun t _=>by have:=points_le c s n t d.Id ho;omega) hl F (by omega) (fun a k=>(k,GHit.mk d.Id a)) (fun a=>GHit.mk d.Id a) (fun k t a hx=>by
     have hk:=(List.getElem?_eq_some_iff.1 hx).1
     dsimp only
     rw [decide_eq_true (by omega),cond_true,getI_nat',hx,Option.bind_some,spec_points F c s n t _ ho hF,Option.bind_some,w64_succ' (by omega)]) (fun a=>by
     dsimp only
     rw [decide_eq_false (by omega)];rfl),Option.bind_some,Option.bind_some]
    rw [show (ts.map fun t=>((pointsS c s n t d.Id:Nat):Int)).sum=sumS c s n ts d.Id from rfl]
    dsimp only
    rw [w64_succ' (by omega)]
    have hfw:=hto.most
    by_cases hp:0<sumS c s n ts d.Id
    ·rw [decide_eq_true hp,cond_true,if_pos hp,push_ok F hits _ m (by omega) (by omega)];rfl
    ·rw [decide_eq_false hp,cond_false,if_neg hp]
  ·dsimp only
   rw [decide_eq_false (by omega)];rfl
 ·have hi:=(List.getElem?_eq_some_iff.1 hx).1
  dsimp only
  rw [decide_eq_true (by omega),cond_true,getI_nat',hx,Option.bind_some,spec_blocks F c s n t ho hF,Option.bind_some,catLok (by rw [List.length_singleton];omega),Option.bind_some,w64_succ' (by omega)]
 ·dsimp only
  rw [decide_eq_false (by omega)];rfl
theorem while_words {c:GConf}{words:List Str}(hl:words.length≤100)(F:Nat)(hF:1000<F){f:List Str×Int→Option ((List Str×Int)⊕List Str)}
  (hf: ∀(i:Nat) w acc,words[i]? =some w→acc.length≤100→f (acc,(i:Int))=some (.inl (newT c acc w,((i+1:Nat):Int))))(h0: ∀acc,f (acc,(words.length:Int))=some (.inr acc)):
  whileM f F (([]:List Str),(0:Int))=some (uniqT c words):=by
 have h:=fold_while (xs:=words) (newT c) (fun i acc=>acc.length≤i) (fun acc=>acc) (fun acc i=>(acc,i)) (f:=f) (s0:=(([]:List Str),(0:Int))) [] rfl F (by omega) (by simp) (fun i w acc hx hacc=>?_) (fun acc _=>h0 acc)
 ·rw [h.1];rfl
 ·have hi:=(List.getElem?_eq_some_iff.1 hx).1
  refine⟨hf i w acc hx (by omega),?_⟩
  unfold newT
  split
  ·rw [List.length_append,List.length_singleton];omega
  ·omega
end Go.Fk
