/-
  'put' and 'l4Build' make the plain automaton. Of no program.
-/
import Derived.Test.YtpjefkdclnmlfaaLawBuild
namespace Go.Fk
open Go
def tot (ws:List Str):Nat:=(ws.map List.length).sum
theorem tot_cons (w:Str)(ws:List Str):tot (w::ws)=w.length+tot ws:=by simp [tot]
theorem tot_app (x y:List Str):tot (x++y)=tot x+tot y:=by simp [tot]
theorem tot_map (b:UInt8): ∀x:List Str,tot (x.map (b:: ·))=x.length+tot x
 | []=>rfl
 | w::x=>by rw [List.map_cons,tot_cons,tot_map b x,tot_cons];simp only [List.length_cons];omega
theorem addS_len (st:Sts)(s:GState):(addS st s).1.length≤st.length+1:=by
 unfold addS
 split<;>simp
theorem arcs_len (g:Sts→List Str→Sts×Nat)(hg: ∀st ws,(g st ws).1.length≤st.length+1+tot ws): ∀(m:Nat) (st:Sts) (ws:List Str),(arcsB g m st ws).1.length≤st.length+tot ws
 | 0,st,ws=>by simp [arcsB]
 | m+1,st,[]=>by simp [arcsB]
 | m+1,st,[]::ws=>by simp [arcsB]
 | m+1,st,(b::w)::ws=>by
  rw [arcsB]
  simp only
  have h1:=hg st (w::(splitB b ws).1)
  have h2:=arcs_len g hg m (g st (w::(splitB b ws).1)).1 (splitB b ws).2
  have h3:tot ws=(splitB b ws).1.length+tot (splitB b ws).1+tot (splitB b ws).2:=by
   conv=>lhs;rw [splitB_app b ws,tot_app,tot_map]
  rw [tot_cons] at h1 ⊢
  simp only [List.length_cons]
  omega
theorem tot_cut (ws:List Str):tot (cutNil ws)≤tot ws:=by
 match ws with
 | []=>exact Nat.le_refl _
 | []::r=>rw [tot_cons];simp [cutNil]
 | (_::_)::_=>exact Nat.le_refl _
theorem build_len: ∀(f:Nat) (st:Sts) (ws:List Str),(build f st ws).1.length≤st.length+1+tot ws
 | 0,st,ws=>by simp [build];omega
 | f+1,st,ws=>by
  rw [build]
  have h1:=arcs_len (build f) (build_len f) (cutNil ws).length st (cutNil ws)
  have h2:=addS_len (arcsB (build f) (cutNil ws).length st (cutNil ws)).1 ⟨hasNil ws,(ws.length:Int),(arcsB (build f) (cutNil ws).length st (cutNil ws)).2⟩
  have h3:=tot_cut ws
  omega
theorem asc_len: ∀(l:List GArc) (n:Nat),(l.Pairwise fun a b=>a.Byte<b.Byte)→(∀a∈l,n≤a.Byte.toNat)→n≤256→l.length+n≤256
 | [],n,_,_,h=>by simpa using h
 | a::l,n,h,h',_=>by
  have hc:=List.pairwise_cons.1 h
  have ha:=h' a (by simp)
  have hlt:=a.Byte.toNat_lt
  have:=asc_len l (a.Byte.toNat+1) hc.2 (fun c hm=>by have:=UInt8.lt_iff_toNat_lt.1 (hc.1 c hm);omega) (by omega)
  simp only [List.length_cons];omega
theorem Good.few {st:Sts}(h:Good st): ∀x∈st,x.Arcs.length≤256:=fun x hx=>by
 obtain⟨i,hi⟩:=List.mem_iff_getElem?.1 hx
 have:=asc_len x.Arcs 0 (h.bytes i x hi) (fun _ _=>Nat.zero_le _) (by omega)
 omega
structure Fit (f:Nat)(st:Sts)(ws:List Str):Prop where
 good:Good st
 asc:Asc ws
 lens: ∀w∈ws,w.length≤f
 few:ws.length≤40
 room:st.length+tot ws≤1000000
theorem fit_step {f:Nat}{st:Sts}{b:UInt8}{w:Str}{ws:List Str}(h:Fit (f+1) st ((b::w)::ws))(hn:[]∉ws):
  Fit f st (w::(splitB b ws).1)∧Fit (f+1) (build (f+1) st (w::(splitB b ws).1)).1 (splitB b ws).2∧[]∉(splitB b ws).2:=by
 obtain⟨hgd,ha,hl,hf,hr⟩:=h
 have ha':=List.pairwise_cons.1 ha
 have happ:=splitB_app b ws
 have hlen:=splitB_len b ws
 have htot:tot ws=(splitB b ws).1.length+tot (splitB b ws).1+tot (splitB b ws).2:=by
  conv=>lhs;rw [splitB_app b ws,tot_app,tot_map]
 generalize (splitB b ws).1=p at *
 generalize (splitB b ws).2=q at *
 have hasc:Asc (p.map (b:: ·)++q):=by rw [←happ];exact ha'.2
 obtain⟨hap,haq,_⟩:=List.pairwise_append.1 hasc
 have hap':Asc (w::p):=List.pairwise_cons.2 ⟨fun v hv=>by
   have:=ha'.1 (b::v) (by rw [happ];exact List.mem_append_left _ (List.mem_map_of_mem hv))
   rcases (sless_cons b b w v).1 this with h | ⟨_,h⟩
   ·exact absurd h (by simp)
   ·exact h,by
   rw [List.pairwise_map] at hap
   refine hap.imp fun {x y} h=>?_
   rcases (sless_cons b b x y).1 h with h | ⟨_,h⟩
   ·exact absurd h (by simp)
   ·exact h⟩
 have hlp: ∀v∈w::p,v.length≤f:=fun v hv=>by
  rcases List.mem_cons.1 hv with rfl | hv
  ·have:=hl (b::v) (by simp)
   simp only [List.length_cons] at this;omega
  ·have:=hl (b::v) (List.mem_cons_of_mem _ (by rw [happ];exact List.mem_append_left _ (List.mem_map_of_mem hv)))
   simp only [List.length_cons] at this;omega
 have hb:=built f st (w::p) hgd hap' hlp
 have hbl:=build_len (f+1) st (w::p)
 rw [tot_cons] at hr hbl
 simp only [List.length_cons] at hf hr
 exact⟨⟨hgd,hap',hlp,by simp only [List.length_cons];omega,by rw [tot_cons];omega⟩,
  ⟨hb.good,haq,fun v hv=>hl v (List.mem_cons_of_mem _ (by rw [happ];exact List.mem_append_right _ hv)),by omega,by omega⟩,
  fun h=>hn (by rw [happ];exact List.mem_append_right _ h)⟩
theorem fit_cut {f:Nat}{st:Sts}{ws:List Str}(h:Fit f st ws):Fit f st (cutNil ws)∧[]∉cutNil ws:=by
 obtain⟨h0,h1,h2⟩:=cutNil_spec h.asc
 have hl:(cutNil ws).length≤ws.length:=by
  conv=>rhs;rw [h0]
  simp
 exact⟨⟨h.good,h1,fun w hw=>h.lens w (by rw [h0];exact List.mem_append_right _ hw),by have:=h.few;omega,by have:=h.room;have:=tot_cut ws;omega⟩,h2⟩
theorem getI_zero {α:Type}(x:α)(xs:List α):getI (x::xs) 0=some x:=rfl
theorem len_pos {α:Type}(x:α)(xs:List α):decide ((0:Int)<((x::xs).length:Int))=true:=decide_eq_true (by simp only [List.length_cons];omega)
theorem subL_tail {α:Type}(x:α)(xs:List α):subL (x::xs) 1 (x::xs).length=some xs:=by
 unfold subL
 rw [if_pos ⟨by decide,by simp only [List.length_cons];omega,Int.le_refl _⟩]
 simp
theorem subS_tail (x:UInt8)(xs:Str):subS (x::xs) 1 (x::xs).length=some xs:=subL_tail x xs
theorem catL_ok {α:Type}{n:Nat}{xs ys:List α}(h:(xs.length+ys.length)*n≤140737488355328):catL n xs ys=some (xs++ys):=by rw [catL,if_pos h]
theorem split_while {b:UInt8}{f:List Str×List Str→Option ((List Str×List Str)⊕(List Str×List Str))}
  (h1: ∀w ws acc,acc.length≤1000→f ((b::w)::ws,acc)=some (.inl (ws,acc++[w])))
  (h2: ∀c w ws acc,c≠b→f ((c::w)::ws,acc)=some (.inr ((c::w)::ws,acc)))
  (h3: ∀acc,f ([],acc)=some (.inr ([],acc))):
  ∀(ws acc:List Str) (F:Nat),[]∉ws→ws.length+acc.length≤1000→ws.length<F→whileM f F (ws,acc)=some ((splitB b ws).2,acc++(splitB b ws).1)
 | [],acc,F,_,_,hF=>by
  obtain⟨F,rfl⟩: ∃G,F=G+1:=⟨F-1,by simp only [List.length_nil] at hF;omega⟩
  rw [whileM,h3];simp [splitB]
 | []::ws,_,_,hn,_,_=>by simp at hn
 | (c::w)::ws,acc,F,hn,hl,hF=>by
  simp only [List.length_cons] at hl hF
  obtain⟨F,rfl⟩: ∃G,F=G+1:=⟨F-1,by omega⟩
  by_cases hc:c=b
  ·subst hc
   rw [whileM,h1 w ws acc (by omega)]
   simp only [Option.bind_some,Sum.elim_inl]
   rw [split_while h1 h2 h3 ws (acc++[w]) F (fun h=>hn (List.mem_cons_of_mem _ h)) (by simp only [List.length_append,List.length_singleton];omega) (by omega)]
   simp [splitB]
  ·rw [whileM,h2 c w ws acc hc]
   simp [splitB,hc]
theorem arcs_while {n:Nat}{f:List Str×GDawg×GState→Option ((List Str×GDawg×GState)⊕(GDawg×GState))}
  (h1: ∀b w ws st s,Fit (n+1) st ((b::w)::ws)→[]∉ws→s.Arcs.length≤1000→f ((b::w)::ws,⟨st⟩,s)=
   some (.inl ((splitB b ws).2,⟨(build (n+1) st (w::(splitB b ws).1)).1⟩,⟨s.Final,s.Many,s.Arcs++[⟨b,((build (n+1) st (w::(splitB b ws).1)).2:Int)⟩]⟩)))
  (h3: ∀d s,f ([],d,s)=some (.inr (d,s))):
  ∀(m:Nat) (st:Sts) (ws:List Str) (s:GState) (F:Nat),ws.length≤m→Fit (n+1) st ws→[]∉ws→s.Arcs.length+ws.length≤1000→ws.length<F→
   whileM f F (ws,⟨st⟩,s)=some (⟨(arcsB (build (n+1)) m st ws).1⟩,⟨s.Final,s.Many,s.Arcs++(arcsB (build (n+1)) m st ws).2⟩):=by
 intro m
 induction m with
 | zero=>
  intro st ws s F hm _ _ _ hF
  obtain rfl:=List.eq_nil_of_length_eq_zero (Nat.le_zero.1 hm)
  obtain⟨F,rfl⟩: ∃G,F=G+1:=⟨F-1,by simp only [List.length_nil] at hF;omega⟩
  rw [whileM,h3];simp [arcsB]
 | succ m ih=>
  intro st ws s F hm hfit hn hl hF
  match ws,hm,hfit,hn,hl,hF with
  | [],_,_,_,_,hF=>
   obtain⟨F,rfl⟩: ∃G,F=G+1:=⟨F-1,by simp only [List.length_nil] at hF;omega⟩
   rw [whileM,h3];simp [arcsB]
  | []::_,_,_,hn,_,_=>simp at hn
  | (b::w)::ws,hm,hfit,hn,hl,hF=>
   simp only [List.length_cons] at hm hl hF
   obtain⟨F,rfl⟩: ∃G,F=G+1:=⟨F-1,by omega⟩
   have hn':[]∉ws:=fun h=>hn (List.mem_cons_of_mem _ h)
   obtain⟨_,hf2,hn2⟩:=fit_step hfit hn'
   have hlen:=splitB_len b ws
   rw [whileM,h1 b w ws st s hfit hn' (by omega)]
   simp only [Option.bind_some,Sum.elim_inl]
   rw [ih _ _ _ F (by omega) hf2 hn2 (by simp only [List.length_append,List.length_singleton];omega) (by omega)]
   simp [arcsB]
theorem arcs_while_nil {f:List Str×GDawg×GState→Option ((List Str×GDawg×GState)⊕(GDawg×GState))}(F:Nat)(d:GDawg)(s:GState)(h3:f ([],d,s)=some (.inr (d,s))):whileM f (F+1) ([],d,s)=some (d,s):=by
 rw [whileM,h3];rfl
theorem put_nil (ws:List Str):(cond (decide ((0:Int)<(ws.length:Int))) (Option.bind (getI ws (0:Int)) fun x31=>(some (x31==([]:Str)))) (some false):Option Bool)=some (hasNil ws):=by
 match ws with
 | []=>rfl
 | []::r=>rw [len_pos];rfl
 | (c::w)::r=>rw [len_pos];rfl
theorem put_cut (ws:List Str):(cond (hasNil ws) (Option.bind (subL ws (1:Int) ws.length) fun x70=>(some (x70,(GState.mk true (ws.length:Int) ([]:List GArc))))) (some (ws,(GState.mk false (ws.length:Int) ([]:List GArc)))):Option ((List Str)×GState))=some (cutNil ws,⟨hasNil ws,(ws.length:Int),[]⟩):=by
 match ws with
 | []=>rfl
 | []::r=>rw [subL_tail];rfl
 | (c::w)::r=>rfl
theorem put_add (F:Nat)(d:GDawg)(s:GState)(hl:d.states_.length≤2000000):(Option.bind (forFrom (σ:=Unit) (τ:=Int×GDawg) (fun (i305:Nat) (_:Unit)=>(Option.bind (getI d.states_ ((i305:Nat):Int)) fun x314=>(Option.bind (M.impl_sameState F x314 s) fun r334=>(cond r334 (some (.inr (((i305:Nat):Int),d))) (some (.inl ())))))) d.states_.length 0 ())
   fun r=>(r.elim (fun _=>some (Sum.inl ())) (fun t=>some (Sum.inr t)):Option (Unit⊕(Int×GDawg)))).bind (fun o=>o.elim (fun _=>(Option.bind (catL 40 d.states_ ([s]:List GState)) fun x359=>(some ((w64 ((x359.length:Int)-(1:Int))),(GDawg.mk x359))))) (fun t=>some t))=
  some (((addS d.states_ s).2:Int),⟨(addS d.states_ s).1⟩):=by
 have key:=fun f h=>find_from (p:=fun x=>sameS x s) (g:=fun i=>((i:Int),d)) (xs:=d.states_) (f:=f) h d.states_.length 0 (by omega)
 rw [key _ (fun i x hx=>?_),List.drop_zero]
 ·unfold addS
  cases d.states_.findIdx? (fun x=>sameS x s) with
  | some k=>simp only [Nat.zero_add];rfl
  | none=>
   simp only [Option.bind_some,Sum.elim_inl]
   rw [catL_ok (by simp only [List.length_singleton];omega),Option.bind_some]
   simp only [List.length_append,List.length_singleton]
   rw [w64_of ⟨by omega,by omega⟩]
   simp
 ·rw [getI_nat',hx,Option.bind_some,impl_same,Option.bind_some]
  cases sameS x s<;>rfl
theorem impl_put: ∀(f F:Nat) (st:Sts) (ws:List Str),Fit f st ws→f+100≤F→
  M.impl_dawg_put F ⟨st⟩ ws=some (((build (f+1) st ws).2:Int),⟨(build (f+1) st ws).1⟩):=by
 intro f
 induction f with
 | zero=>
  intro F st ws h hF
  obtain⟨F,rfl⟩: ∃G,F=G+1:=⟨F-1,by omega⟩
  obtain⟨hfc,hnc⟩:=fit_cut h
  have hc:cutNil ws=[]:=by
   cases hc:cutNil ws with
   | nil=>rfl
   | cons v r=>
    rw [hc] at hfc hnc
    have hv0:v=[]:=List.eq_nil_of_length_eq_zero (by have:=hfc.lens v (by simp);omega)
    simp [hv0] at hnc
  have hb:build 1 st ws=addS st ⟨hasNil ws,(ws.length:Int),[]⟩:=by rw [build,hc];rfl
  rw [show 0+1=1 from rfl,hb]
  obtain⟨G,rfl⟩: ∃G,F=G+1:=⟨F-1,by omega⟩
  have hadd:=put_add (G+1) ⟨st⟩ ⟨hasNil ws,(ws.length:Int),[]⟩ (by have:=h.room;simp only;omega)
  rw [M.impl_dawg_put]
  dsimp only
  rw [put_nil,Option.bind_some,put_cut,Option.bind_some]
  rw [hc,arcs_while_nil G _ _ rfl,Option.bind_some,Option.bind_some]
  exact hadd
 | succ f ih=>
  intro F st ws h hF
  obtain⟨F,rfl⟩: ∃G,F=G+1:=⟨F-1,by omega⟩
  obtain⟨hfc,hnc⟩:=fit_cut h
  have hlen:(arcsB (build (f+1)) (cutNil ws).length st (cutNil ws)).1.length≤2000000:=by
   have:=arcs_len (build (f+1)) (build_len (f+1)) (cutNil ws).length st (cutNil ws)
   have:=hfc.room
   omega
  have hadd:=put_add F ⟨(arcsB (build (f+1)) (cutNil ws).length st (cutNil ws)).1⟩ ⟨hasNil ws,(ws.length:Int),(arcsB (build (f+1)) (cutNil ws).length st (cutNil ws)).2⟩ hlen
  have hb:build (f+1+1) st ws=addS (arcsB (build (f+1)) (cutNil ws).length st (cutNil ws)).1 ⟨hasNil ws,(ws.length:Int),(arcsB (build (f+1)) (cutNil ws).length st (cutNil ws)).2⟩:=by rw [build]
  rw [hb,M.impl_dawg_put]
  dsimp only
  rw [put_nil,Option.bind_some,put_cut,Option.bind_some]
  rw [arcs_while (n:=f) ?_ ?_ (cutNil ws).length st (cutNil ws) ⟨hasNil ws,(ws.length:Int),[]⟩ F (Nat.le_refl _) hfc hnc (by have:=hfc.few;simp only [List.length_nil];omega) (by have:=hfc.few;omega)]
  ·rw [Option.bind_some,Option.bind_some]
   exact hadd
  ·intro b w ws st s hfit hn hs
   simp only
   rw [len_pos,cond_true,getI_zero,Option.bind_some,getI_zero,Option.bind_some]
   have hfew:=hfit.few
   simp only [List.length_cons] at hfew
   rw [split_while (b:=b) ?_ ?_ ?_ ((b::w)::ws) [] F (fun h=>by rcases List.mem_cons.1 h with h | h;cases h;exact hn h) (by simp only [List.length_cons,List.length_nil];omega) (by simp only [List.length_cons];omega)]
   ·rw [Option.bind_some,Option.bind_some]
    have hsp:splitB b ((b::w)::ws)=(w::(splitB b ws).1,(splitB b ws).2):=by simp [splitB]
    rw [hsp]
    simp only [List.nil_append]
    obtain⟨hf1,_,_⟩:=fit_step hfit hn
    rw [ih F st _ hf1 (by omega),Option.bind_some,catL_ok (by simp only [List.length_singleton];omega),Option.bind_some]
   ·intro w ws acc ha
    simp only
    rw [len_pos,cond_true,getI_zero,Option.bind_some,getI_zero,Option.bind_some,beq_self_eq_true,Option.bind_some,cond_true,Option.bind_some,subS_tail,Option.bind_some,catL_ok (by simp only [List.length_singleton];omega),Option.bind_some,subL_tail,Option.bind_some]
   ·intro c w ws acc hc
    simp only
    rw [len_pos,cond_true,getI_zero,Option.bind_some,getI_zero,Option.bind_some,beq_eq_false_iff_ne.2 hc,Option.bind_some,cond_false]
   ·intro acc
    rfl
  ·intro d s
   rfl
def dawgS (ws:List Str):Sts:=if upS ws then (build 13 [] ws).1 else []
theorem word_len {w:Str}(h:wordS w=true):1≤w.length∧w.length≤12:=by
 unfold wordS at h
 simp only [Bool.and_eq_true,decide_eq_true_iff] at h
 exact h.2
theorem Up.tot {ws:List Str}(h:Up ws):tot ws≤480:=by
 have: ∀ws:List Str,(∀w∈ws,wordS w=true)→Fk.tot ws≤12*ws.length:=by
  intro ws
  induction ws with
  | nil=>intro _;simp [Fk.tot]
  | cons w ws ih=>
   intro h
   have:=ih (fun v hv=>h v (by simp [hv]))
   have:=(word_len (h w (by simp))).2
   rw [tot_cons,List.length_cons]
   omega
 have:=this ws h.word
 have:=h.few
 omega
theorem Up.fit {ws:List Str}(h:Up ws):Fit 12 [] ws:=
 ⟨Good.nil,h.asc,fun w hw=>(word_len (h.word w hw)).2,h.few,by have:=h.tot;show 0+Fk.tot ws≤1000000;omega⟩
theorem impl_dawg (F:Nat)(ws:List Str)(hF:200≤F):M.impl_DawgOf F ws=some (dawgS ws):=by
 unfold M.impl_DawgOf dawgS
 rw [impl_up,Option.bind_some]
 cases h:upS ws
 ·rfl
 ·rw [Bool.not_true,cond_false,impl_put 12 F [] ws ((up_iff ws).1 h).fit (by omega)]
  rfl
end Go.Fk
