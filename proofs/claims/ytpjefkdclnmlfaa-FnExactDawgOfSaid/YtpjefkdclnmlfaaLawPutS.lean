/-
  'l4Build' makes the plain automaton, too. Of no program.
-/
import Derived.Test.YtpjefkdclnmlfaaLawPut
namespace Go.Fk
open Go
theorem spec_same (F:Nat)(a b:GState)(hF:a.Arcs.length<F)(hl:a.Arcs.length<9000000000000000000):M.spec_l4Same F a b=some (sameS a b):=by
 unfold M.spec_l4Same sameS
 cases hf:a.Final==b.Final
 ·rfl
 cases hm:a.Many==b.Many
 ·rfl
 simp only [Bool.not_true,cond_false,Option.bind_some,Bool.true_and]
 by_cases h:a.Arcs.length=b.Arcs.length
 ·rw [show ((a.Arcs.length:Int)==(b.Arcs.length:Int))=true by rw [beq_iff_eq];omega,Bool.not_true,cond_false,sameAs_zip _ _ h]
  have hz:a.Arcs.length=a.Arcs.zipIdx.length:=by simp
  have key:=fun f h h0=>all_while (p:=fun q:GArc×Nat=>(b.Arcs[q.2]?).elim false fun b=>sameA q.1 b) (xs:=a.Arcs.zipIdx) (f:=f) h h0 a.Arcs.length 0 F (by omega) hF
  rw [show (0:Int)=((0:Nat):Int) from rfl,key _ (fun i q hq=>?_) ?_,List.drop_zero]
  ·cases a.Arcs.zipIdx.all (fun q:GArc×Nat=>(b.Arcs[q.2]?).elim false fun b=>sameA q.1 b)<;>rfl
  ·rw [←hz,decide_eq_false (by omega)];rfl
  ·obtain⟨hx,hi⟩:=zip_at hq
   have hlt:=(List.getElem?_eq_some_iff.1 hx).1
   rw [decide_eq_true (by omega),cond_true,getI_nat',hx,Option.bind_some,getI_nat',List.getElem?_eq_getElem (show i<b.Arcs.length by omega),Option.bind_some,hi,List.getElem?_eq_getElem (show i<b.Arcs.length by omega),w64_succ' (by omega)]
   simp only [Option.elim_some,sameA]
   exact(show ∀b:Bool,(bif !b then (some (Sum.inr (Sum.inr false)):Option (Int⊕(Unit⊕Bool))) else some (Sum.inl ((i+1:Nat):Int)))=some (if b=true then Sum.inl ((i+1:Nat):Int) else Sum.inr (Sum.inr false)) from fun b=>by cases b<;>rfl) _
 ·rw [show ((a.Arcs.length:Int)==(b.Arcs.length:Int))=false by rw [beq_eq_false_iff_ne];omega,sameAs_len h];rfl
theorem spec_add (F:Nat)(st:Sts)(s:GState)(hF:st.length<F)(hA: ∀x∈st,x.Arcs.length<F)(hl:st.length<1000000000)(hA2: ∀x∈st,x.Arcs.length<9000000000000000000):
  M.spec_l4Add F st s=some ((addS st s).1,((addS st s).2:Int)):=by
 unfold M.spec_l4Add addS
 have key:=fun f h h0=>find_while (p:=fun x=>sameS x s) (g:=fun i=>(st,(i:Int))) (xs:=st) (f:=f) h h0 st.length 0 F (by omega) hF
 rw [show (0:Int)=((0:Nat):Int) from rfl,key _ (fun i x hx=>?_) ?_,List.drop_zero]
 ·cases st.findIdx? (fun x=>sameS x s) with
  | some k=>simp only [Nat.zero_add];rfl
  | none=>
   simp only [Option.bind_some,Sum.elim_inl]
   rw [catL,if_pos (by simp only [List.length_singleton];omega)]
   rfl
 ·rw [decide_eq_false (by omega)];rfl
 ·have hlt:=(List.getElem?_eq_some_iff.1 hx).1
  rw [decide_eq_true (by omega),cond_true,getI_nat',hx,Option.bind_some,spec_same F _ _ (hA x (List.mem_of_getElem? hx)) (hA2 x (List.mem_of_getElem? hx)),Option.bind_some,w64_succ' (by omega)]
  cases sameS x s<;>rfl
theorem drop_head {x:Str}{n:Nat}{b:UInt8}{w:Str}(h:x.drop n=b::w):x[n]? =some b∧x.drop (n+1)=w∧n<x.length:=by
 have hlt:n<x.length:=by
  rcases Nat.lt_or_ge n x.length with h1 | h1
  ·exact h1
  ·rw [List.drop_eq_nil_of_le h1] at h;cases h
 rw [List.drop_eq_getElem_cons hlt] at h
 injection h with h1 h2
 exact⟨by rw [List.getElem?_eq_getElem hlt,h1],h2,hlt⟩
theorem splitB_cut (b:UInt8)(ws:List Str):ws.take (splitB b ws).1.length=(splitB b ws).1.map (b:: ·)∧ws.drop (splitB b ws).1.length=(splitB b ws).2:=by
 have h:=splitB_app b ws
 generalize (splitB b ws).1=p at *
 generalize (splitB b ws).2=q at *
 subst h
 have hl:p.length=(p.map (b:: ·)).length:=by simp
 exact⟨by rw [hl];simp,by rw [hl];simp⟩
theorem count_while {b:UInt8}{ws:List Str}{f:Int→Option (Int⊕Int)}(hn:[]∉ws)
  (h1: ∀(i:Nat) w,ws[i]? =some (b::w)→f (i:Int)=some (.inl ((i+1:Nat):Int)))
  (h2: ∀(i:Nat) c w,ws[i]? =some (c::w)→c≠b→f (i:Int)=some (.inr (i:Int)))
  (h3:f (ws.length:Int)=some (.inr (ws.length:Int))):
  ∀(k i F:Nat),i+k=ws.length→k<F→whileM f F (i:Int)=some ((i+(splitB b (ws.drop i)).1.length:Nat):Int)
 | 0,i,F,e,hF=>by
  obtain⟨F,rfl⟩: ∃G,F=G+1:=⟨F-1,by omega⟩
  rw [whileM,show i=ws.length by omega,h3,List.drop_eq_nil_of_le (by omega)];rfl
 | k+1,i,F,e,hF=>by
  obtain⟨F,rfl⟩: ∃G,F=G+1:=⟨F-1,by omega⟩
  have hi:i<ws.length:=by omega
  rw [whileM,List.drop_eq_getElem_cons hi]
  cases hw:ws[i] with
  | nil=>exact absurd (by rw [←hw];exact List.getElem_mem hi) hn
  | cons c w=>
   have hat:ws[i]? =some (c::w):=by rw [List.getElem?_eq_getElem hi,hw]
   by_cases hc:c=b
   ·subst hc
    rw [h1 i w hat]
    simp only [Option.bind_some,Sum.elim_inl]
    rw [count_while hn h1 h2 h3 k (i+1) F (by omega) (by omega)]
    simp only [splitB,if_true,List.length_cons]
    congr 2;omega
   ·rw [h2 i c w hat hc]
    simp [splitB,hc]
theorem sarcs_while {n at_:Nat}{f:Sts×List Str×GState→Option ((Sts×List Str×GState)⊕(Sts×GState))}
  (h1: ∀V b w ws st s,V.map (List.drop at_)=(b::w)::ws→Fit (n+1) st ((b::w)::ws)→[]∉ws→s.Arcs.length≤1000→∃V',V'.map (List.drop at_)=(splitB b ws).2∧f (st,V,s)=
   some (.inl ((build (n+1) st (w::(splitB b ws).1)).1,V',⟨s.Final,s.Many,s.Arcs++[⟨b,((build (n+1) st (w::(splitB b ws).1)).2:Int)⟩]⟩)))
  (h3: ∀st s,f (st,[],s)=some (.inr (st,s))):
  ∀(m:Nat) (st:Sts) (ws:List Str) (V:List Str) (s:GState) (F:Nat),V.map (List.drop at_)=ws→ws.length≤m→Fit (n+1) st ws→[]∉ws→s.Arcs.length+ws.length≤1000→ws.length<F→
   whileM f F (st,V,s)=some ((arcsB (build (n+1)) m st ws).1,⟨s.Final,s.Many,s.Arcs++(arcsB (build (n+1)) m st ws).2⟩):=by
 intro m
 induction m with
 | zero=>
  intro st ws V s F hV hm _ _ _ hF
  obtain rfl:=List.eq_nil_of_length_eq_zero (Nat.le_zero.1 hm)
  obtain rfl:=List.map_eq_nil_iff.1 hV
  obtain⟨F,rfl⟩: ∃G,F=G+1:=⟨F-1,by simp only [List.length_nil] at hF;omega⟩
  rw [whileM,h3];simp [arcsB]
 | succ m ih=>
  intro st ws V s F hV hm hfit hn hl hF
  match ws,hV,hm,hfit,hn,hl,hF with
  | [],hV,_,_,_,_,hF=>
   obtain rfl:=List.map_eq_nil_iff.1 hV
   obtain⟨F,rfl⟩: ∃G,F=G+1:=⟨F-1,by simp only [List.length_nil] at hF;omega⟩
   rw [whileM,h3];simp [arcsB]
  | []::_,_,_,_,hn,_,_=>simp at hn
  | (b::w)::ws,hV,hm,hfit,hn,hl,hF=>
   simp only [List.length_cons] at hm hl hF
   obtain⟨F,rfl⟩: ∃G,F=G+1:=⟨F-1,by omega⟩
   have hn':[]∉ws:=fun h=>hn (List.mem_cons_of_mem _ h)
   obtain⟨_,hf2,hn2⟩:=fit_step hfit hn'
   have hlen:=splitB_len b ws
   obtain⟨V',hV',hst⟩:=h1 V b w ws st s hV hfit hn' (by omega)
   rw [whileM,hst]
   simp only [Option.bind_some,Sum.elim_inl]
   rw [ih _ _ V' _ F hV' (by omega) hf2 hn2 (by simp only [List.length_append,List.length_singleton];omega) (by omega)]
   simp [arcsB]
theorem sarcs_nil {f:Sts×List Str×GState→Option ((Sts×List Str×GState)⊕(Sts×GState))}(F:Nat)(st:Sts)(s:GState)(h3:f (st,[],s)=some (.inr (st,s))):whileM f (F+1) (st,[],s)=some (st,s):=by
 rw [whileM,h3];rfl
theorem map_cutNil {at_:Nat}{V:List Str}(ha: ∀v∈V,at_≤v.length):
  (cond (decide ((0:Int)<(V.length:Int))) (Option.bind (getI V (0:Int)) fun x25=>(some ((x25.length:Int)==(at_:Int)))) (some false):Option Bool)=some (hasNil (V.map (List.drop at_)))∧
  ∃V',V'.map (List.drop at_)=cutNil (V.map (List.drop at_))∧(cond (hasNil (V.map (List.drop at_))) (Option.bind (subL V (1:Int) V.length) fun x63=>(some (x63,(GState.mk true (V.length:Int) ([]:List GArc))))) (some (V,(GState.mk false (V.length:Int) ([]:List GArc)))):Option ((List Str)×GState))=some (V',⟨hasNil (V.map (List.drop at_)),(V.length:Int),[]⟩):=by
 match V,ha with
 | [],_=>exact⟨rfl,[],rfl,rfl⟩
 | v::V,ha=>
  have h0:=ha v (by simp)
  rw [len_pos,cond_true,getI_zero,Option.bind_some,subL_tail,List.map_cons]
  cases hd:v.drop at_ with
  | nil=>
   have:v.length=at_:=by have:=List.drop_eq_nil_iff.1 hd;omega
   exact⟨by rw [show ((v.length:Int)==(at_:Int))=true by rw [beq_iff_eq];omega];rfl,V,rfl,rfl⟩
  | cons b w=>
   have:=(drop_head hd).2.2
   exact⟨by rw [show ((v.length:Int)==(at_:Int))=false by rw [beq_eq_false_iff_ne];omega];rfl,v::V,by rw [List.map_cons,hd];rfl,rfl⟩
theorem spec_put: ∀(f F:Nat) (st:Sts) (V:List Str) (at_:Nat),(∀v∈V,at_≤v.length)→at_+f≤1000→Fit f st (V.map (List.drop at_))→f+3000000≤F→
  M.spec_l4Build F st V (at_:Int)=some ((build (f+1) st (V.map (List.drop at_))).1,((build (f+1) st (V.map (List.drop at_))).2:Int)):=by
 intro f
 induction f with
 | zero=>
  intro F st V at_ ha hat h hF
  obtain⟨F,rfl⟩: ∃G,F=G+1:=⟨F-1,by omega⟩
  obtain⟨hfc,hnc⟩:=fit_cut h
  have hc:cutNil (V.map (List.drop at_))=[]:=by
   cases hc:cutNil (V.map (List.drop at_)) with
   | nil=>rfl
   | cons v r=>
    rw [hc] at hfc hnc
    have hv0:v=[]:=List.eq_nil_of_length_eq_zero (by have:=hfc.lens v (by simp);omega)
    simp [hv0] at hnc
  have hb:build 1 st (V.map (List.drop at_))=addS st ⟨hasNil (V.map (List.drop at_)),((V.map (List.drop at_)).length:Int),[]⟩:=by rw [build,hc];rfl
  rw [show 0+1=1 from rfl,hb,M.spec_l4Build]
  dsimp only
  obtain⟨e1,V',hV',e2⟩:=map_cutNil ha
  rw [e1,Option.bind_some,e2,Option.bind_some]
  rw [hc] at hV'
  obtain rfl:=List.map_eq_nil_iff.1 hV'
  obtain⟨G,rfl⟩: ∃G,F=G+1:=⟨F-1,by omega⟩
  have hroom:=h.room
  have hfew:=h.good.few
  dsimp only
  rw [sarcs_nil G st _ rfl,Option.bind_some,Option.bind_some,spec_add (G+1) st _ (by omega) (fun x hx=>by have:=hfew x hx;omega) (by omega) (fun x hx=>by have:=hfew x hx;omega),List.length_map]
  rfl
 | succ f ih=>
  intro F st V at_ ha hat h hF
  obtain⟨F,rfl⟩: ∃G,F=G+1:=⟨F-1,by omega⟩
  obtain⟨hfc,hnc⟩:=fit_cut h
  have hlen:(arcsB (build (f+1)) (cutNil (V.map (List.drop at_))).length st (cutNil (V.map (List.drop at_)))).1.length≤2000000:=by
   have:=arcs_len (build (f+1)) (build_len (f+1)) (cutNil (V.map (List.drop at_))).length st (cutNil (V.map (List.drop at_)))
   have:=hfc.room
   omega
  have hb:build (f+1+1) st (V.map (List.drop at_))=addS (arcsB (build (f+1)) (cutNil (V.map (List.drop at_))).length st (cutNil (V.map (List.drop at_)))).1 ⟨hasNil (V.map (List.drop at_)),((V.map (List.drop at_)).length:Int),(arcsB (build (f+1)) (cutNil (V.map (List.drop at_))).length st (cutNil (V.map (List.drop at_)))).2⟩:=by rw [build]
  have hgd:Good (arcsB (build (f+1)) (cutNil (V.map (List.drop at_))).length st (cutNil (V.map (List.drop at_)))).1:=
   (arcs_built (build (f+1)) f (fun st ws a b _ d=>built f st ws a b d) _ st _ (Nat.le_refl _) hfc.good hfc.asc hnc hfc.lens).good
  rw [hb,M.spec_l4Build]
  dsimp only
  obtain⟨e1,V',hV',e2⟩:=map_cutNil ha
  rw [e1,Option.bind_some,e2,Option.bind_some]
  have hfew:=hfc.few
  rw [sarcs_while (n:=f) (at_:=at_) ?_ ?_ (cutNil (V.map (List.drop at_))).length st (cutNil (V.map (List.drop at_))) V' ⟨hasNil (V.map (List.drop at_)),(V.length:Int),[]⟩ F hV' (Nat.le_refl _) hfc hnc (by simp only [List.length_nil];omega) (by omega)]
  ·rw [Option.bind_some,Option.bind_some]
   dsimp only
   rw [spec_add F _ _ (by omega) (fun x hx=>by have:=hgd.few x hx;omega) (by omega) (fun x hx=>by have:=hgd.few x hx;omega),List.length_map]
   rfl
  ·intro U b w ws st s hU hfit hn hs
   match U,hU with
   | [],hU=>cases hU
   | u::U,hU=>
    rw [List.map_cons] at hU
    injection hU with hu hU'
    obtain⟨hu1,hu2,hu3⟩:=drop_head hu
    have hfew:=hfit.few
    simp only [List.length_cons] at hfew
    have hUl:U.length=ws.length:=by rw [←hU',List.length_map]
    have hsp:splitB b ((b::w)::ws)=(w::(splitB b ws).1,(splitB b ws).2):=by simp [splitB]
    obtain⟨c1,c2⟩:=splitB_cut b ((b::w)::ws)
    have hcl:=splitB_len b ((b::w)::ws)
    have hmap:(u::U).map (List.drop at_)=(b::w)::ws:=by rw [List.map_cons,hu,hU']
    rw [hsp] at c1 c2 hcl
    simp only at c1 c2 hcl
    generalize hN:(w::(splitB b ws).1).length=N at c1 c2 hcl
    refine⟨(u::U).drop N,by rw [List.map_drop,hmap,c2],?_⟩
    dsimp only
    rw [len_pos,cond_true,getI_zero,Option.bind_some,getI_n,hu1,Option.bind_some]
    have hcw:=fun f h1 h2 h3=>count_while (b:=b) (ws:=(b::w)::ws) (f:=f) (fun h=>by rcases List.mem_cons.1 h with h | h;cases h;exact hn h) h1 h2 h3 ((b::w)::ws).length 0 F (by omega) (by simp only [List.length_cons];omega)
    rw [show (0:Int)=((0:Nat):Int) from rfl,hcw _ ?_ ?_ ?_]
    ·rw [List.drop_zero,hsp,Nat.zero_add]
     simp only
     rw [hN,Option.bind_some,Option.bind_some]
     have hNl:N≤(u::U).length:=by simp only [List.length_cons] at hcl ⊢;omega
     have s1:subL (u::U) ((0:Nat):Int) (N:Int)=some ((u::U).take N):=by
      unfold subL
      rw [if_pos ⟨by omega,by omega,by omega⟩]
      simp
     have s2:subL (u::U) (N:Int) ((u::U).length:Int)=some ((u::U).drop N):=by
      unfold subL
      rw [if_pos ⟨by omega,by omega,by omega⟩]
      simp
     have hne: ∀v∈(u::U).take N,at_+1≤v.length:=fun v hv=>by
      have hv2:v.drop at_∈(b::w)::ws:=by rw [←hmap];exact List.mem_map_of_mem (List.mem_of_mem_take hv)
      cases hd:v.drop at_ with
      | nil=>rw [hd] at hv2;rcases List.mem_cons.1 hv2 with h | h;cases h;exact absurd h hn
      | cons c x=>have:=(drop_head hd).2.2;omega
     have hm2:((u::U).take N).map (List.drop (at_+1))=w::(splitB b ws).1:=by
      have:((u::U).take N).map (List.drop (at_+1))=(((u::U).take N).map (List.drop at_)).map (List.drop 1):=by
       rw [List.map_map]
       congr 1
       funext x
       simp
      rw [this,List.map_take,hmap,c1,List.map_map]
      have:(List.drop 1∘fun x=>b::x)=(id:Str→Str):=by funext x;rfl
      rw [this,List.map_id]
     obtain⟨hf1,_,_⟩:=fit_step hfit hn
     rw [s1,Option.bind_some,w64_succ' (by omega),ih F st _ (at_+1) hne (by omega) (by rw [hm2];exact hf1) (by omega),hm2,Option.bind_some,catL_ok (by simp only [List.length_singleton];omega),Option.bind_some,s2,Option.bind_some]
    ·intro i w2 hi
     have hlt:=(List.getElem?_eq_some_iff.1 hi).1
     rw [←hmap,List.getElem?_map] at hi
     obtain⟨v,hv,hd⟩:=Option.map_eq_some_iff.1 hi
     have hlt2:=(List.getElem?_eq_some_iff.1 hv).1
     rw [decide_eq_true (by omega),cond_true,getI_n,hv,Option.bind_some,getI_n,(drop_head hd).1,Option.bind_some,beq_self_eq_true,Option.bind_some,cond_true,w64_succ' (by simp only [List.length_cons] at hlt;omega)]
    ·intro i c w2 hi hc
     rw [←hmap,List.getElem?_map] at hi
     obtain⟨v,hv,hd⟩:=Option.map_eq_some_iff.1 hi
     have hlt2:=(List.getElem?_eq_some_iff.1 hv).1
     rw [decide_eq_true (by omega),cond_true,getI_n,hv,Option.bind_some,getI_n,(drop_head hd).1,Option.bind_some,beq_eq_false_iff_ne.2 hc,Option.bind_some,cond_false]
    ·rw [decide_eq_false (by simp only [List.length_cons];omega)]
     rfl
  ·intro st s
   rfl
theorem spec_dawg (F:Nat)(ws:List Str)(hF:4000000≤F)(hl:ws.length<F)(hl2:ws.length<9000000000000000000)(hn: ∀w∈ws,w.length<F∧w.length≤maxLen):M.spec_DawgOf F ws=some (dawgS ws):=by
 unfold M.spec_DawgOf dawgS
 rw [spec_up F ws hl hl2 hn,Option.bind_some]
 cases h:upS ws
 ·rfl
 ·have hm:ws.map (List.drop 0)=ws:=by rw [show (List.drop 0:Str→Str)=id from rfl,List.map_id]
  have:=spec_put 12 F [] ws 0 (fun _ _=>Nat.zero_le _) (by omega) (by rw [hm];exact((up_iff ws).1 h).fit) (by omega)
  rw [hm] at this
  rw [Bool.not_true,cond_false,show (0:Int)=((0:Nat):Int) from rfl,this]
  rfl
end Go.Fk
