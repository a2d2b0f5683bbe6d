/-
  'visit' lists the words of any states, or finds them bad; 'wordsIn'. Of no program.
-/
import Derived.Test.YtepcfgnicnibnaaLawEq
namespace Go.Fk
open Go
def Iv (l:GLister):Prop:=l.bad_=true∨(0≤l.steps_∧l.steps_≤560∧(l.words_.length:Int)≤l.steps_)
theorem wordsAt_succ {d:Sts}{i:Nat}{s:GState}(h:d[i]? =some s)(k:Nat):wordsAt d (k+1) (i:Int)=(if s.Final then [[]] else [])++s.Arcs.flatMap fun a=>(wordsAt d k a.To).map (a.Byte:: ·):=by
 rw [wordsAt,getI_n,h]
theorem map_head (head:Str)(b:UInt8)(l:List Str):(l.map (b:: ·)).map (head++ ·)=l.map ((head++[b])++ ·):=by
 rw [List.map_map]
 congr 1
 funext x
 simp
theorem visit_ok (d:Sts): ∀(at_ F:Nat) (l:GLister) (head:Str),at_<F→at_<d.length→l.d_=d→Iv l→
  ∃l',M.impl_lister_visit F l (at_:Int) head=some l'∧l'.d_=d∧Iv l'∧(l'.bad_=false→l.bad_=false∧∀k,at_<k→l'.words_=l.words_++(wordsAt d k (at_:Int)).map (head++ ·)):=by
 intro at_
 induction at_ using Nat.strongRecOn with
 | ind at_ ih=>
  intro F l head hF hat hd hI
  obtain⟨F,rfl⟩: ∃G,F=G+1:=⟨F-1,by omega⟩
  obtain⟨ld,lw,ls,lb⟩:=l
  simp only at hd
  subst hd
  have hx:ld[at_]? =some ld[at_]:=List.getElem?_eq_getElem hat
  rw [M.impl_lister_visit]
  dsimp only
  have hc:(cond (decide ((560:Int)<(w64 (ls+(1:Int))))) (some true) (some (decide ((12:Int)<(head.length:Int)))):Option Bool)=some (decide ((560:Int)<(w64 (ls+(1:Int))))||decide ((12:Int)<(head.length:Int))):=by
   cases decide ((560:Int)<(w64 (ls+(1:Int))))<;>rfl
  rw [hc,Option.bind_some]
  cases hcc:(decide ((560:Int)<(w64 (ls+(1:Int))))||decide ((12:Int)<(head.length:Int))) with
  | true=>
   rw [cond_true,Option.bind_some,cond_true]
   exact⟨_,rfl,rfl,.inl rfl,fun h=>by cases h⟩
  | false=>
   rw [cond_false,Option.bind_some]
   dsimp only
   cases lb with
   | true=>
    rw [cond_true]
    exact⟨_,rfl,rfl,.inl rfl,fun h=>by cases h⟩
   | false=>
    rw [Bool.or_eq_false_iff] at hcc
    have c1:=of_decide_eq_false hcc.1
    have c2:=of_decide_eq_false hcc.2
    obtain⟨s0,s1,s2⟩:=hI.resolve_left (by simp)
    simp only at s0 s1 s2
    rw [w64_of ⟨by omega,by omega⟩] at c1 ⊢
    have hm:1000≤maxLen:=by decide
    rw [cond_false,getI_n,hx,Option.bind_some]
    have hfin:(cond ld[at_].Final (Option.bind (catL 16 lw ([head]:List Str)) fun x91=>(some (GLister.mk ld x91 (ls+1) false))) (some (GLister.mk ld lw (ls+1) false)):Option GLister)=
      some ⟨ld,lw++(if ld[at_].Final then [head] else []),ls+1,false⟩:=by
     cases ld[at_].Final
     ·simp
     ·rw [cond_true,catL_ok (by simp only [List.length_singleton];omega)];rfl
    rw [hfin,Option.bind_some]
    generalize ha:ld[at_].Arcs=arcs at *
    generalize hw0:lw++(if ld[at_].Final then [head] else [])=w0
    have hw0l:(w0.length:Int)≤ls+1:=by
     rw [←hw0]
     cases ld[at_].Final<;>simp <;>omega
    have key:=fun f step fin=>forFrom_run (σ:=GLister) (τ:=GLister) (f:=f)
     (Post:=fun r=>r.elim (fun s=>s.d_=ld∧Iv s∧(s.bad_=false→∀k,at_≤k→s.words_=w0++(arcs.flatMap fun a=>(wordsAt ld k a.To).map (a.Byte:: ·)).map (head++ ·))) (fun t=>t.d_=ld∧t.bad_=true))
     (fun i s=>s.d_=ld∧Iv s∧(s.bad_=false→∀k,at_≤k→s.words_=w0++((arcs.take i).flatMap fun a=>(wordsAt ld k a.To).map (a.Byte:: ·)).map (head++ ·)))
     arcs.length step fin arcs.length 0 ⟨ld,w0,ls+1,false⟩ (by omega) ⟨rfl,.inr ⟨by simp only;omega,by simp only;omega,hw0l⟩,fun _ k _=>by simp⟩
    generalize hf:(fun (i129:Nat) (s125:GLister)=>_:Nat→GLister→Option (GLister⊕GLister))=f
    obtain⟨t,ht,hp⟩:=key f (fun i s hi hs=>by
     obtain⟨sd,sI,sw⟩:=hs
     subst hf
     dsimp only
     rw [getI_at hi,Option.bind_some]
     have hcc:(cond (decide (arcs[i].To<(0:Int))) (some true) (some (decide ((at_:Int)≤arcs[i].To))):Option Bool)=some (decide (arcs[i].To<(0:Int))||decide ((at_:Int)≤arcs[i].To)):=by
      cases decide (arcs[i].To<(0:Int))<;>rfl
     rw [hcc,Option.bind_some]
     cases hb:(decide (arcs[i].To<(0:Int))||decide ((at_:Int)≤arcs[i].To)) with
     | true=>exact .inr ⟨_,rfl,sd,rfl⟩
     | false=>
      rw [Bool.or_eq_false_iff] at hb
      have b1:=of_decide_eq_false hb.1
      have b2:=of_decide_eq_false hb.2
      have e:arcs[i].To=((arcs[i].To.toNat:Nat):Int):=by omega
      rw [cond_false,catS,if_pos (by simp only [List.length_singleton];omega),Option.bind_some]
      obtain⟨l',h1,h2,h3,h4⟩:=ih arcs[i].To.toNat (by omega) F s (head++[arcs[i].Byte]) (by omega) (by omega) sd sI
      rw [←e] at h1 h4
      rw [h1,Option.bind_some]
      refine .inl ⟨l',rfl,h2,h3,fun hb k hk=>?_⟩
      obtain⟨h5,h6⟩:=h4 hb
      rw [h6 k (by omega),sw h5 k hk,List.take_succ_eq_append_getElem hi,List.flatMap_append,List.map_append,List.append_assoc]
      congr 2
      rw [List.flatMap_singleton,map_head]) (fun s hs=>by
     obtain⟨sd,sI,sw⟩:=hs
     refine⟨sd,sI,fun hb k hk=>?_⟩
     rw [sw hb k hk,List.take_length])
    rw [ht,Option.bind_some]
    cases t with
    | inl s=>
     obtain⟨sd,sI,sw⟩:=hp
     refine⟨s,rfl,sd,sI,fun hb=>⟨rfl,fun k hk=>?_⟩⟩
     obtain⟨k,rfl⟩: ∃m,k=m+1:=⟨k-1,by omega⟩
     rw [sw hb k (by omega),←hw0,wordsAt_succ hx,ha,List.map_append,List.append_assoc]
     congr 2
     cases ld[at_].Final<;>simp
    | inr t=>
     obtain⟨td,tb⟩:=hp
     exact⟨t,rfl,td,.inl tb,fun hb=>by rw [tb] at hb;cases hb⟩
theorem tot_take {α:Type}(f:α→List Str)(l:List α)(i:Nat):tot ((l.take i).flatMap f)≤tot (l.flatMap f):=by
 conv=>rhs;rw [←List.take_append_drop i l,List.flatMap_append,tot_app]
 omega
theorem visit_good (d:Sts)(hg:Good d): ∀(at_ F:Nat) (l:GLister) (head:Str),at_<F→at_<d.length→l.d_=d→l.bad_=false→0≤l.steps_→(l.words_.length:Int)≤l.steps_→l.steps_+1+tot (W d at_)≤560→
  head.length≤12→(∀w∈W d at_,head.length+w.length≤12)→
  ∃l',M.impl_lister_visit F l (at_:Int) head=some l'∧l'.d_=d∧l'.bad_=false∧l.steps_≤l'.steps_∧l'.steps_≤l.steps_+1+tot (W d at_)∧(l'.words_.length:Int)≤l'.steps_:=by
 intro at_
 induction at_ using Nat.strongRecOn with
 | ind at_ ih=>
  intro F l head hF hat hd hlb s0 s2 s1 hh hw
  obtain⟨F,rfl⟩: ∃G,F=G+1:=⟨F-1,by omega⟩
  obtain⟨ld,lw,ls,lb⟩:=l
  simp only at hd hlb s0 s1 s2
  subst hd hlb
  have hx:ld[at_]? =some ld[at_]:=List.getElem?_eq_getElem hat
  have hW:=W_at hg.down hx
  rw [M.impl_lister_visit]
  dsimp only
  rw [w64_of ⟨by omega,by omega⟩,decide_eq_false (by omega),cond_false,decide_eq_false (by omega),Option.bind_some,cond_false,Option.bind_some]
  dsimp only
  have hm:1000≤maxLen:=by decide
  rw [cond_false,getI_n,hx,Option.bind_some]
  have hfin:(cond ld[at_].Final (Option.bind (catL 16 lw ([head]:List Str)) fun x91=>(some (GLister.mk ld x91 (ls+1) false))) (some (GLister.mk ld lw (ls+1) false)):Option GLister)=
    some ⟨ld,lw++(if ld[at_].Final then [head] else []),ls+1,false⟩:=by
   cases ld[at_].Final
   ·simp
   ·rw [cond_true,catL_ok (by simp only [List.length_singleton];omega)];rfl
  rw [hfin,Option.bind_some]
  have hdn:=hg.down at_ _ hx
  have hfu:=hg.full at_ _ hx
  have htot:tot (ld[at_].Arcs.flatMap (WA ld))≤tot (W ld at_):=by rw [hW,stW,tot_app];omega
  have hmem: ∀v∈ld[at_].Arcs.flatMap (WA ld),v∈W ld at_:=fun v hv=>by rw [hW,stW];exact List.mem_append_right _ hv
  generalize ld[at_].Arcs=arcs at *
  generalize hw0:lw++(if ld[at_].Final then [head] else [])=w0
  have hw0l:(w0.length:Int)≤ls+1:=by
   rw [←hw0]
   cases ld[at_].Final<;>simp <;>omega
  have key:=fun f step fin=>forFrom_run (σ:=GLister) (τ:=GLister) (f:=f)
   (Post:=fun r=>∃s,r= .inl s∧s.d_=ld∧s.bad_=false∧ls≤s.steps_∧s.steps_≤ls+1+tot (W ld at_)∧(s.words_.length:Int)≤s.steps_)
   (fun i s=>s.d_=ld∧s.bad_=false∧ls≤s.steps_∧s.steps_≤ls+1+tot ((arcs.take i).flatMap (WA ld))∧(s.words_.length:Int)≤s.steps_)
   arcs.length step fin arcs.length 0 ⟨ld,w0,ls+1,false⟩ (by omega) ⟨rfl,rfl,by simp only;omega,by simp only;omega,hw0l⟩
  generalize hf:(fun (i129:Nat) (s125:GLister)=>_:Nat→GLister→Option (GLister⊕GLister))=f
  obtain⟨t,ht,s,rfl,hp⟩:=key f (fun i s hi hs=>by
   obtain⟨sd,sb,q1,q2,q3⟩:=hs
   subst hf
   dsimp only
   obtain⟨a1,a2⟩:=hdn arcs[i] (List.getElem_mem hi)
   have hne:=hfu arcs[i] (List.getElem_mem hi)
   rw [getI_at hi,Option.bind_some,decide_eq_false (by omega),cond_false,decide_eq_false (by omega),Option.bind_some]
   have e:arcs[i].To=((arcs[i].To.toNat:Nat):Int):=by omega
   rw [cond_false,catS,if_pos (by simp only [List.length_singleton];omega),Option.bind_some]
   have t1:=tot_take (WA ld) arcs (i+1)
   rw [List.take_succ_eq_append_getElem hi,List.flatMap_append,List.flatMap_singleton,tot_app] at t1
   have t2:tot (WA ld arcs[i])=(W ld arcs[i].To.toNat).length+tot (W ld arcs[i].To.toNat):=tot_map _ _
   have t3:0<(W ld arcs[i].To.toNat).length:=List.length_pos_iff.2 hne
   have hin: ∀w∈W ld arcs[i].To.toNat,head.length+1+w.length≤12:=fun w hw'=>by
    have:=hw (arcs[i].Byte::w) (hmem _ (List.mem_flatMap.2 ⟨arcs[i],List.getElem_mem hi,List.mem_map_of_mem hw'⟩))
    simp only [List.length_cons] at this;omega
   have hh':head.length+1≤12:=by
    obtain⟨w,hw'⟩:=List.exists_mem_of_length_pos t3
    have:=hin w hw';omega
   obtain⟨l',h1,h2,h3,h4,h5,h6⟩:=ih arcs[i].To.toNat (by omega) F s (head++[arcs[i].Byte]) (by omega) (by omega) sd sb (by omega) q3 (by omega) (by simp only [List.length_append,List.length_singleton];omega) (fun w hw'=>by simp only [List.length_append,List.length_singleton];exact hin w hw')
   rw [←e] at h1
   rw [h1,Option.bind_some]
   refine .inl ⟨l',rfl,h2,h3,by omega,?_,h6⟩
   rw [List.take_succ_eq_append_getElem hi,List.flatMap_append,List.flatMap_singleton,tot_app]
   omega) (fun s hs=>by
   obtain⟨sd,sb,q1,q2,q3⟩:=hs
   rw [List.take_length] at q2
   exact⟨s,rfl,sd,sb,q1,by omega,q3⟩)
  rw [ht,Option.bind_some]
  exact⟨s,rfl,hp⟩
def wordsOf (d:Sts):List Str:=wordsAt d d.length ((d.length-1:Nat):Int)
def okS (d:Sts):Bool:=decide (0<d.length)&&(upS (wordsOf d)&&eqBy sameS (dawgS (wordsOf d)) d)
structure IsDawg (d:Sts)(ws:List Str):Prop where
 up:Up ws
 eq:dawgS ws=d
 good:Good d
 pos:0<d.length
 words:W d (d.length-1)=ws
 part: ∀j,j<d.length→(∃y,Part y (W d j) ws)∧(W d j≠[]∨ws=[])
theorem dawg_of_up {ws:List Str}(h:Up ws):IsDawg (dawgS ws) ws:=by
 have hb:Built [] ws (build 13 [] ws):=built 12 [] ws Good.nil h.fit.asc h.fit.lens
 have hd:dawgS ws=(build 13 [] ws).1:=by
  unfold dawgS
  rw [if_pos ((up_iff ws).2 h)]
 rw [hd]
 have hl:=hb.last rfl
 refine⟨h,hd,hb.good,by omega,?_,fun j hj=>hb.part j (Nat.zero_le _) hj⟩
 rw [show (build 13 [] ws).1.length-1=(build 13 [] ws).2 by omega]
 exact hb.words
theorem okS_iff (d:Sts):okS d=true↔IsDawg d (wordsOf d):=by
 constructor
 ·intro h
  unfold okS at h
  simp only [Bool.and_eq_true,decide_eq_true_iff] at h
  obtain⟨h1,h2,h3⟩:=h
  rw [eqBy_iff sameS_iff] at h3
  have:=dawg_of_up ((up_iff _).1 h2)
  rw [h3] at this
  exact this
 ·intro h
  unfold okS
  rw [(up_iff _).2 h.up,h.eq,(eqBy_iff sameS_iff d d).2 rfl,decide_eq_true h.pos]
  rfl
theorem equalFunc_ok (F:Nat)(x y:Sts):M.slices_EqualFunc_State__impl_sameState F x y=some (eqBy sameS x y):=by
 unfold M.slices_EqualFunc_State__impl_sameState
 by_cases hlen:x.length=y.length
 ·rw [show ((x.length:Int)==(y.length:Int))=true by rw [beq_iff_eq];omega,Bool.not_true,cond_false]
  have hz:x.length=x.zipIdx.length:=by simp
  have key:=fun f h=>all_from (p:=fun q:GState×Nat=>(y[q.2]?).elim false fun b=>sameS q.1 b) (xs:=x.zipIdx) (f:=f) h x.length 0 (by omega)
  rw [key _ (fun i q hq=>?_),List.drop_zero,←eqBy_zip sameS x y hlen]
  ·cases eqBy sameS x y<;>rfl
  ·obtain⟨hx,hi⟩:=zip_at hq
   have hlt:=(List.getElem?_eq_some_iff.1 hx).1
   have hy:y[i]? =some y[i]:=List.getElem?_eq_getElem (by omega)
   rw [getI_n,getI_n,hx,hy,Option.bind_some,Option.bind_some,impl_same,Option.bind_some,hi,hy]
   exact(show ∀b:Bool,(bif !b then (some (Sum.inr false):Option (Unit⊕Bool)) else some (Sum.inl ()))=some (if b=true then Sum.inl () else Sum.inr false) from fun b=>by cases b<;>rfl) _
 ·rw [show ((x.length:Int)==(y.length:Int))=false by rw [beq_eq_false_iff_ne];omega,eqBy_len hlen];rfl
theorem wordsIn_ok (F:Nat)(d:Sts)(hF:d.length+1000<F)(hl:d.length<9000000000000000000):M.impl_wordsIn F d=some (if okS d then (wordsOf d,true) else ([],false)):=by
 unfold M.impl_wordsIn
 by_cases h0:d.length=0
 ·rw [show ((d.length:Int)==0)=true by rw [beq_iff_eq];omega]
  have:okS d=false:=by unfold okS;rw [decide_eq_false (by omega)];rfl
  rw [this];rfl
 ·rw [show ((d.length:Int)==0)=false by rw [beq_eq_false_iff_ne];omega,cond_false,w64_pred (by omega) (by omega)]
  obtain⟨l',h1,h2,h3,h4⟩:=visit_ok d (d.length-1) F ⟨d,[],0,false⟩ [] (by omega) (by omega) rfl (.inr ⟨Int.le_refl 0,(by decide :(0:Int)≤560),Int.le_refl 0⟩)
  rw [h1,Option.bind_some]
  cases hb:l'.bad_ with
  | true=>
   have:okS d=false:=by
    rw [Bool.eq_false_iff]
    intro hok
    have hi:=(okS_iff d).1 hok
    have ht:=hi.up.tot
    have hw:=hi.words
    obtain⟨l2,g1,_,g2,_⟩:=visit_good d hi.good (d.length-1) F ⟨d,[],0,false⟩ [] (by omega) (by omega) rfl rfl (Int.le_refl 0) (Int.le_refl 0) (by rw [hw];simp only;omega) (by decide :(0:Nat)≤12) (fun w hw'=>by
     rw [hw] at hw'
     have:=(word_len (hi.up.word w hw')).2
     simp only [List.length_nil];omega)
    rw [h1] at g1
    injection g1 with g1
    rw [←g1,hb] at g2
    cases g2
   rw [this];rfl
  | false=>
   have hw:l'.words_=wordsOf d:=by
    rw [(h4 hb).2 d.length (by omega)]
    unfold wordsOf
    have:(fun x:Str=>[]++x)=id:=by funext x;rfl
    rw [this,List.map_id];rfl
   rw [cond_false,hw,impl_up,Option.bind_some]
   unfold okS
   rw [decide_eq_true (by omega),Bool.true_and]
   cases hu:upS (wordsOf d) with
   | false=>rfl
   | true=>
    rw [Bool.not_true,cond_false,impl_dawg F _ (by omega),Option.bind_some,equalFunc_ok,Option.bind_some,Bool.true_and]
    cases eqBy sameS (dawgS (wordsOf d)) d<;>rfl
end Go.Fk
