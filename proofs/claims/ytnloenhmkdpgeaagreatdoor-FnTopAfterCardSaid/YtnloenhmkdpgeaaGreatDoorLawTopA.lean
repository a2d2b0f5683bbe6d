/-
  What comes behind a hit: the reference's points are told of drawn pieces, sound or not. Of no program.
-/
import Derived.Test.YtnloenhmkdpgeaaGreatDoorLawPage
set_option linter.unusedVariables false
namespace Go.Fk
open Go
structure b5u (c:u6)(s:A5):Prop where
 conf:Y6 c=true
 cfit:a1K 100 c
 fit:a6k 10000 s.Entries
 at1: ∀e∈s.Entries,∀p∈e.Posts,p.At.length≤1000
 few:s.Docs.length≤16
 term: ∀e∈s.Entries,e.Term.length≤100
 docs:X3 s.Docs
theorem b9L {c:u6}{s:A5}(h:b5u c s)(n t:r4):(G3 s n t).length≤10000∧∀p∈G3 s n t,p.At.length≤1000:=by
 unfold G3
 cases hf:s.Entries.find? (a5H n t) with
 | none=>exact⟨Nat.zero_le _,fun p hp=>by cases hp⟩
 | some e=>
  have he:=List.mem_of_find?_eq_some hf
  exact⟨(h.fit.2 e he).1,h.at1 e he⟩
theorem c9D {c:u6}{s:A5}(h:b5u c s)(n t:r4)(id:Int):(atS s n t id).length≤1000∧((atS s n t id).length≠0→0<(G3 s n t).length):=by
 have hp:=b9L h n t
 unfold atS
 cases hf:(G3 s n t).find? fun p=>p.Doc==id with
 | none=>exact⟨Nat.zero_le _,fun h=>absurd rfl h⟩
 | some p=>
  have hm:=List.mem_of_find?_eq_some hf
  exact⟨hp.2 p hm,fun _=>List.length_pos_of_mem hm⟩
theorem c9L (F df docs:Nat)(h0:0<df∧df≤10000)(h16:docs≤16)(hF:100<F): ∃r:Nat,a2M F (df:Int) (docs:Int)=some (r:Int)∧r≤5:=by
 by_cases hd:df≤docs
 ·exact⟨_,c0X F df docs h0.1 hd h16 hF,b0U 5 df docs⟩
 ·refine⟨0,?_,by omega⟩
  unfold a2M
  obtain⟨F,rfl⟩: ∃G,F=G+1:=⟨F-1,by omega⟩
  rw [y2]
  dsimp only
  rw [b8 (by omega),j4,C5 (n:=(df:Int)*2) ⟨by omega,by omega⟩,c6 (by omega)];rfl
theorem c9N (F tf long total docs df:Nat)(h1:tf≤10000)(h2:long≤total)(h3:total≤1000000000000)(h4:docs≤16)(h5:0<df∧df≤10000)(hF:1000000000<F):
  ∃a b:Nat,a2N F (tf:Int) (long:Int) (total:Int) (docs:Int) (df:Int)=some ⟨b2s a b,b2r a b⟩∧a≤1000000000∧0<b∧b≤1000000000:=by
 unfold a2N
 obtain⟨r,hr,hr5⟩:=c9L F df docs h5 h4 (by omega)
 have k: ∃m:Nat,((cond (decide (0<(total:Int))) ((a3s (z8 ((z8 ((long:Int)*(docs:Int)))*9)) (total:Int)).bind fun x20=>(some x20)) (some 1)):Option Int)=some (m:Int)∧m≤1000:=by
  by_cases h0:0<total
  ·have e1:long*docs≤total*16:=Nat.mul_le_mul h2 h4
   have e2:long*docs*9≤total*144:=by omega
   refine⟨long*docs*9/total,?_,?_⟩
   ·rw [b8 (by omega),j4,a5i (by omega),show z8 (((long*docs:Nat):Int)*9)=((long*docs*9:Nat):Int) from a5i (b:=9) (by omega),b9o h0 (by omega)];rfl
   ·have:long*docs*9/total≤144:=Nat.div_le_of_le_mul (by omega)
    omega
  ·exact⟨1,by rw [c6 (by omega)];rfl,by omega⟩
 obtain⟨m,hm,hm1⟩:=k
 have hu:(1+r)*22*tf≤132*10000:=Nat.mul_le_mul (by omega) h1
 refine⟨(1+r)*22*tf,10*tf+3+m,?_,by omega,by omega,by omega⟩
 have k2:z8 ((z8 ((z8 ((1:Int)+(r:Int)))*(22:Int)))*(tf:Int))=(((1+r)*22*tf:Nat):Int):=by
  rw [show z8 ((1:Int)+(r:Int))=((1+r:Nat):Int) from a5N (a:=1) (by omega),show z8 (((1+r:Nat):Int)*22)=(((1+r)*22:Nat):Int) from a5i (b:=22) (by omega),a5i (by omega)]
 have k3:z8 ((z8 ((z8 ((10:Int)*(tf:Int)))+(3:Int)))+(m:Int))=((10*tf+3+m:Nat):Int):=by
  rw [show z8 ((10:Int)*(tf:Int))=((10*tf:Nat):Int) from a5i (a:=10) (by omega),show z8 (((10*tf:Nat):Int)+3)=((10*tf+3:Nat):Int) from a5N (b:=3) (by omega),a5N (by omega)]
 rw [hm,a8,hr,a8,k2,k3,c3q F _ _ (by omega) ⟨by omega,by omega⟩ hF];rfl
theorem c8g {α:Type}{v w:α→Nat}(h: ∀x,v x≤w x): ∀l:List α,(l.map v).sum≤(l.map w).sum
 | []=>by simp
 | x::l=>by have:=c8g h l;have:=h x;rw [List.map_cons,List.map_cons,List.sum_cons,List.sum_cons];omega
theorem c7g (F:Nat){c:u6}{s:A5}(h:b5u c s)(n t:r4)(id:Int)(hF:1000000000<F): ∃v,U9 F s n t id=some v:=by
 have hfit:=h.fit
 have hp:=b9L h n t
 obtain⟨ha,hb⟩:=c9D h n t id
 unfold U9
 rw [b58 F s n t id hfit.1 hp.1 (by omega),a8]
 by_cases h0:(atS s n t id).length=0
 ·rw [beq_iff_eq.2 (by omega)];exact⟨_,rfl⟩
 ·rw [beq_eq_false_iff_ne.2 (by omega),i6,c0T F s n id hfit (by omega),a8,b8M F s n hfit (by omega),a8,a8M F s n t hfit.1 (by omega),a8]
  have h2:(s.Entries.map (a2Z n id)).sum≤(s.Entries.map (a2Y n)).sum:=c8g (fun e=>by
   unfold a2Z a2Y
   split
   ·exact c8g (fun p=>by unfold a9J;split<;>omega) _
   ·omega) _
  have h3:=b1P (w:=a2Y n) s.Entries (fun e he=>b9Y (n:=n) (hfit.2 e he))
  have h4:s.Entries.length*100000000≤10000*100000000:=Nat.mul_le_mul_right _ hfit.1
  obtain⟨a,b,hab,a1,b0,b1⟩:=c9N F (atS s n t id).length _ _ s.Docs.length (G3 s n t).length (by omega) h2 (by omega) h.few ⟨hb h0,by omega⟩ hF
  rw [hab,a8,a8]
  dsimp only
  exact⟨_,b8H a b a1 ⟨b0,b1⟩⟩
theorem c8h {σ τ:Type}{n:Nat}{f:σ→Option (σ⊕τ)}(I:Nat→σ→Prop)(P:τ→Prop)(F:Nat)(hF:n<F)(s0:σ)(h0:I 0 s0)
  (step: ∀i s,i<n→I i s→(∃s',f s=some (.inl s')∧I (i+1) s')∨(∃t,f s=some (.inr t)∧P t))(fin: ∀s,I n s→∃t,f s=some (.inr t)∧P t): ∃t,y2 f F s0=some t∧P t:=
 I7 (Post:=P) I n step fin n 0 s0 F (by omega) hF h0
theorem c82 (F:Nat){c:u6}{s:A5}(h:b5u c s)(f:r4)(ws:List r4)(n a b:Int)(ks:List q7)(id:Int)(hw: ∀w∈ws,D0 w=true)(hl:ws.length≤4)(hF:1000000000<F):
  ∃v,a1q F c s ⟨a,f,ws,n,b,ks⟩ id=some v:=by
 have hj:=a5Z ws hw
 unfold a1q a3Y
 dsimp only
 simp only [c0R F hw hl (show 10<F by omega),a8,a7x F c (X0 ws) h.conf (show (X0 ws).length≤2000000 by omega) (show (X0 ws).length+30<F by omega)]
 have htl:=a4g c (X0 ws)
 generalize hts:G2 c (X0 ws)=ts at *
 generalize hg:(fun (s82:(List (List Int))×Int)=>_:(List (List Int))×Int→Option (((List (List Int))×Int)⊕(List (List Int))))=g
 obtain⟨L,hL,hP⟩:=c8h (f:=g) (n:=ts.length) (fun i (st:List (List Int)×Int)=>st.2=(i:Int)∧st.1.length=i∧∀l∈st.1,l.length≤1000) (fun t=>t.length≤100∧∀l∈t,l.length≤1000) F (by omega) (([]:List (List Int)),(0:Int)) ⟨rfl,rfl,by simp⟩ (fun i st hi hs=>by
  subst hg
  obtain⟨s1,s2⟩:=st
  obtain⟨e1,e2,e3⟩:=hs
  simp only at e1 e2 e3
  subst e1
  have g0:v8 ts (0:Int)=some (ts[0]'(by omega)):=T5 (xs:=ts) (i:=0) (by omega)
  have hat:=(c9D h f ts[i].Text id).1
  have hpl:=(b9L h f ts[i].Text).1
  dsimp only
  rw [b8 (by omega),j4,T5 hi,a8,g0,a8,a8,b58 F s f ts[i].Text id h.fit.1 hpl (by omega),a8]
  generalize atS s f ts[i].Text id=at0 at *
  generalize hg2:(fun (s172:(List Int)×Int)=>_:(List Int)×Int→Option (((List Int)×Int)⊕(List Int)))=g2
  obtain⟨l,hl1,hl2⟩:=c8h (f:=g2) (n:=at0.length) (fun j (st:List Int×Int)=>st.2=(j:Int)∧st.1.length≤j) (fun t=>t.length≤1000) F (by omega) (([]:List Int),(0:Int)) ⟨rfl,by simp⟩ (fun j st hj hs=>by
   subst hg2
   obtain⟨t1,t2⟩:=st
   obtain⟨k1,k2⟩:=hs
   simp only at k1 k2
   subst k1
   left
   dsimp only
   rw [b8 (by omega),j4,T5 hj,a8,y5 (by omega)]
   generalize (decide (_≤at0[j]):Bool)=bb
   cases bb with
   | false=>exact⟨_,rfl,rfl,by simp only;omega⟩
   | true=>
    rw [j4,a8,H4 (by simp only [l8];omega),a8]
    exact⟨_,rfl,rfl,by simp only [o0,l8];omega⟩) (fun st hs=>by
   subst hg2
   obtain⟨t1,t2⟩:=st
   obtain⟨k1,k2⟩:=hs
   simp only at k1 k2
   subst k1
   dsimp only
   rw [c6 (by omega)]
   exact⟨_,rfl,by omega⟩)
  left
  rw [hl1,a8,a8,H4 (by simp only [l8];omega),a8,y5 (by omega)]
  refine⟨_,rfl,rfl,by simp only [o0,l8];omega,fun y hy=>?_⟩
  rcases List.mem_append.1 hy with hy | hy
  ·exact e3 y hy
  ·rw [List.mem_singleton.1 hy];exact hl2) (fun st hs=>by
  subst hg
  obtain⟨s1,s2⟩:=st
  obtain⟨e1,e2,e3⟩:=hs
  simp only at e1 e2 e3
  subst e1
  dsimp only
  rw [c6 (by omega)]
  exact⟨_,rfl,by omega,e3⟩)
 rw [hL,a8,a8,a8]
 cases (L.length:Int)==0 with
 | true=>exact⟨_,rfl⟩
 | false=>
  rw [i6,b4N F L n hP.2 (by omega) (by omega),a8]
  have h3: ∀x:Int,∃y,(cond (decide (3<x)) (some 3) (some x):Option Int)=some y:=fun x=>by cases decide (3<x)<;>exact⟨_,rfl⟩
  obtain⟨y,hy⟩:=h3 ((a5g L n).length:Int)
  rw [hy,a8]
  generalize hg2:(fun (s118:Int×Int)=>_:Int×Int→Option ((Int×Int)⊕Int))=g2
  obtain⟨t2,ht2,_⟩:=c8h (f:=g2) (n:=ts.length) (fun i (st:Int×Int)=>st.2=(i:Int)) (fun _=>True) F (by omega) ((0:Int),(0:Int)) rfl (fun i st hi hs=>by
   subst hg2
   obtain⟨s1,s2⟩:=st
   simp only at hs
   subst hs
   obtain⟨v,hv⟩:=c7g F h f ts[i].Text id hF
   left
   dsimp only
   rw [b8 (by omega),j4,T5 hi,a8,hv,a8,y5 (by omega)]
   exact⟨_,rfl,rfl⟩) (fun st hs=>by
   subst hg2
   obtain⟨s1,s2⟩:=st
   simp only at hs
   subst hs
   dsimp only
   rw [c6 (by omega)]
   exact⟨_,rfl,trivial⟩)
  rw [ht2]
  exact⟨_,rfl⟩
theorem c9J (F:Nat){c:u6}{s:A5}(h:b5u c s)(f w:r4)(n a b id:Int)(ks:List q7)(hw:D0 w=true)(hF:1000000000<F): ∃v,a2L F s ⟨a,f,[w],n,b,ks⟩ id=some v:=by
 have hwl:=O4 hw
 have hfit:=h.fit
 unfold a2L
 dsimp only
 generalize hg:(fun (s38:Int×Int)=>_:Int×Int→Option ((Int×Int)⊕Int))=g
 obtain⟨t,ht,_⟩:=c8h (f:=g) (n:=s.Entries.length) (fun i (st:Int×Int)=>st.2=(i:Int)) (fun _=>True) F (by have:=hfit.1;omega) ((0:Int),(0:Int)) rfl (fun i st hi hs=>by
  subst hg
  obtain⟨s1,s2⟩:=st
  simp only at hs
  subst hs
  have hel:=h.term _ (List.getElem_mem hi)
  have hfl:=hfit.1
  left
  dsimp only
  rw [b8 (by omega),j4,T5 hi,a8,show v8 [w] (0:Int)=some w from rfl,a8,c2q F _ w (by omega) (by omega) (by omega),a8,y5 (by omega)]
  have hb: ∀x y:Bool,∃z,(cond (!x) (some true) (some y):Option Bool)=some z:=fun x y=>by cases x<;>exact⟨_,rfl⟩
  obtain⟨z,hz⟩:=hb (s.Entries[i].Field==f) (decide (n<b2p s.Entries[i].Term w))
  rw [hz,a8]
  cases z with
  | true=>exact⟨_,rfl,rfl⟩
  | false=>
   obtain⟨v,hv⟩:=c7g F h f s.Entries[i].Term id hF
   rw [i6,hv,a8,show ∀x:Int,a3s x 3=some (z8 (x.tdiv 3)) from fun x=>if_neg (by decide),a8]
   generalize (decide (s1<_):Bool)=bb
   cases bb with
   | false=>exact⟨_,rfl,rfl⟩
   | true=>exact⟨_,rfl,rfl⟩) (fun st hs=>by
  subst hg
  obtain⟨s1,s2⟩:=st
  simp only at hs
  subst hs
  dsimp only
  rw [c6 (by omega)]
  exact⟨_,rfl,trivial⟩)
 rw [ht]
 exact⟨_,rfl⟩
theorem c9H (F:Nat){c:u6}{s:A5}(h:b5u c s)(f p:r4)(n a b id:Int)(ks:List q7)(hp:a8c p=true)(hF:1000000000<F): ∃v,a2K F s ⟨a,f,[p],n,b,ks⟩ id=some v:=by
 have h2:p.length≤12:=by
  simp only [a8c,q8,decide_eq_true_eq] at hp
  omega
 have hfit:=h.fit
 unfold a2K
 dsimp only
 generalize hg:(fun (s38:Int)=>_:Int→Option (Int⊕(Unit⊕Bool)))=g
 obtain⟨t,ht,_⟩:=c8h (f:=g) (n:=s.Entries.length) (fun i (st:Int)=>st=(i:Int)) (fun _=>True) F (by have:=hfit.1;omega) (0:Int) rfl (fun i st hi hs=>by
  subst hg
  subst hs
  have hel:=h.term _ (List.getElem_mem hi)
  have hfl:=hfit.1
  have hpl:=(b9L h f s.Entries[i].Term).1
  dsimp only
  rw [b8 (by omega),j4,T5 hi,a8]
  cases s.Entries[i].Field==f with
  | false=>exact .inl ⟨_,by rw [i6,a8,i6,y5 (by omega)],rfl⟩
  | true=>
   rw [j4,show v8 [p] (0:Int)=some p from rfl,a8,b5k (p.length+s.Entries[i].Term.length) p s.Entries[i].Term F (by omega) (by omega),a8]
   cases a3S p s.Entries[i].Term with
   | false=>exact .inl ⟨_,by rw [i6,a8,i6,y5 (by omega)],rfl⟩
   | true=>
    rw [j4,b58 F s f s.Entries[i].Term id hfl hpl (by omega),a8,a8]
    cases decide ((0:Int)<((atS s f s.Entries[i].Term id).length:Int)) with
    | false=>exact .inl ⟨_,by rw [i6,y5 (by omega)],rfl⟩
    | true=>exact .inr ⟨_,rfl,trivial⟩) (fun st hs=>by
  subst hg
  subst hs
  dsimp only
  rw [c6 (by omega)]
  exact⟨_,rfl,trivial⟩)
 rw [ht]
 cases t<;>exact⟨_,rfl⟩
theorem c9I (F:Nat){c:u6}{s:A5}(h:b5u c s){q:q7}(hq:a3D q)(id:Int)(hF:1000000000<F): ∃v,G1 (F+1) c s q id=some v:=by
 have hf1:=h.few
 rw [G1]
 dsimp only
 cases hq with
 | all=>exact⟨_,rfl⟩
 | @term f w hf hw=>
  simp only [Int.reduceBEq,i6,j4]
  obtain⟨v,hv⟩:=c7g F h f (Y8 c w) id hF
  rw [show v8 ([w]:List r4) (0:Int)=some w from rfl,a8,b8L F c w h.cfit h.conf hw (by omega),a8,hv]
  exact⟨_,rfl⟩
 | @phrase f ws n hf g1 g2 hw g3 g4=>
  simp only [Int.reduceBEq,i6,j4]
  obtain⟨v,hv⟩:=c82 F h f ws n 3 0 [] id hw g2 hF
  rw [hv]
  exact⟨_,rfl⟩
 | @near f w n hf hw g1 g2=>
  simp only [Int.reduceBEq,i6,j4]
  obtain⟨v,hv⟩:=c9J F h f w n 4 0 id [] hw hF
  rw [hv]
  exact⟨_,rfl⟩
 | @glob f p hf hp hn=>
  simp only [Int.reduceBEq,i6,j4]
  obtain⟨v,hv⟩:=c9H F h f p 0 5 0 id [] hp hF
  rw [hv,a8,b5n]
  exact⟨_,rfl⟩
 | @range f a b hf g1 g2 g3 g4=>
  simp only [Int.reduceBEq,i6,j4]
  have hn:((s.Docs.find? fun d=>d.Id==id).getD ⟨0,[],[]⟩).Nums.length≤100:=by
   cases hfd:s.Docs.find? fun d=>d.Id==id with
   | none=>simp
   | some x=>exact(h.docs.doc x (List.mem_of_find?_eq_some hfd)).nums
  rw [b4g F s id (by omega) (by omega),a8,c0U F _ f (by omega) (by omega),a8,inS,a8,b5n]
  exact⟨_,rfl⟩
theorem c8x {c:u6}{s:A5}(h:b5u c s)(id:Int): ∀{d:Nat} {q:q7},I3 d q→∀F,1000000000+d<F→∃v,G1 F c s q id=some v
 | 0,q,hq,_,_=>by cases hq
 | d+1,q,hq,F,hF=>by
  obtain⟨F,rfl⟩: ∃G,F=G+1:=⟨F-1,by omega⟩
  have ih: ∀k,I3 d k→∃v,G1 F c s k id=some v:=fun k hk=>c8x h id hk F (by omega)
  have loop: ∀(ks:List q7) (e:Bool) (g:Int×Int→Option ((Int×Int)⊕(Int⊕Int))),ks.length≤4→(∀k∈ks,I3 d k)→(∀(i:Nat) k (a v:Int),ks[i]? =some k→G1 F c s k id=some v→(∃x,g (a,(i:Int))=some (.inl (x,((i+1:Nat):Int))))∨∃t,g (a,(i:Int))=some (.inr t))→
    (∀a,∃t,g (a,(ks.length:Int))=some (.inr t))→∃t,y2 g F ((0:Int),(0:Int))=some t:=fun ks e g hl hk hst hfin=>by
   obtain⟨t,ht,_⟩:=c8h (f:=g) (n:=ks.length) (fun i (st:Int×Int)=>st.2=(i:Int)) (fun _=>True) F (by omega) ((0:Int),(0:Int)) rfl (fun i st hi hs=>by
    obtain⟨s1,s2⟩:=st
    simp only at hs
    subst hs
    obtain⟨v,hv⟩:=ih ks[i] (hk _ (List.getElem_mem hi))
    rcases hst i ks[i] s1 v (j8 hi) hv with ⟨x,hx⟩ | ⟨t,ht⟩
    ·exact .inl ⟨_,hx,rfl⟩
    ·exact .inr ⟨_,ht,trivial⟩) (fun st hs=>by
    obtain⟨s1,s2⟩:=st
    simp only at hs
    subst hs
    obtain⟨t,ht⟩:=hfin s1
    exact⟨t,ht,trivial⟩)
   exact⟨t,ht⟩
  cases hq with
  | leaf hq=>exact c9I F h hq id (by omega)
  | @and _ ks h1 h2 h3=>
   rw [G1]
   dsimp only
   simp only [Int.reduceBEq,i6]
   generalize hg:(fun (s287:Int×Int)=>_:Int×Int→Option ((Int×Int)⊕(Int⊕Int)))=g
   obtain⟨t,ht⟩:=loop ks true g h2 h3 (fun i k a v hk hv=>by
    subst hg
    have hi:=(i4.1 hk).1
    dsimp only
    rw [b8 (by omega),j4,n8,hk,a8,hv,a8,y5 (by omega)]
    cases v==0
    ·exact .inl ⟨_,rfl⟩
    ·exact .inr ⟨_,rfl⟩) (fun a=>by
    subst hg
    dsimp only
    rw [c6 (by omega)]
    exact⟨_,rfl⟩)
   rw [ht]
   cases t<;>exact⟨_,rfl⟩
  | @or _ ks h1 h2 h3=>
   rw [G1]
   dsimp only
   simp only [Int.reduceBEq,i6]
   generalize hg:(fun (s287:Int×Int)=>_:Int×Int→Option ((Int×Int)⊕(Int⊕Int)))=g
   obtain⟨t,ht⟩:=loop ks true g h2 h3 (fun i k a v hk hv=>by
    subst hg
    have hi:=(i4.1 hk).1
    dsimp only
    rw [b8 (by omega),j4,n8,hk,a8,hv,a8,y5 (by omega)]
    cases v==0
    ·exact .inl ⟨_,rfl⟩
    ·exact .inl ⟨_,rfl⟩) (fun a=>by
    subst hg
    dsimp only
    rw [c6 (by omega)]
    exact⟨_,rfl⟩)
   rw [ht]
   cases t<;>exact⟨_,rfl⟩
  | @less _ a b h1 h2=>
   rw [G1]
   dsimp only
   simp only [Int.reduceBEq,i6,j4]
   obtain⟨v,hv⟩:=ih b h2
   obtain⟨v',hv'⟩:=ih a h1
   rw [show v8 ([a,b]:List q7) (1:Int)=some b from rfl,a8,hv,a8]
   cases decide (0<v) with
   | true=>exact⟨_,rfl⟩
   | false=>
    rw [i6,show v8 ([a,b]:List q7) (0:Int)=some a from rfl,a8,hv']
    exact⟨_,rfl⟩
  | @times _ n k h1 h2 h3=>
   rw [G1]
   dsimp only
   simp only [Int.reduceBEq,i6,j4]
   obtain⟨v,hv⟩:=ih k h3
   rw [show v8 ([k]:List q7) (0:Int)=some k from rfl,a8,hv]
   exact⟨_,rfl⟩
theorem c9W (F:Nat){c:u6}{s:A5}(h:b5u c s){d:Nat}{q:q7}(hq:I3 d q)(hd:d≤4)(hF:1000000100<F): ∃r,a44 F c s q 16=some r∧r.length≤16:=by
 have hf1:=h.few
 unfold a44
 generalize hg:(fun (s59:(List E3)×Int)=>_:(List E3)×Int→Option (((List E3)×Int)⊕(List E3)))=g
 obtain⟨t,ht,hp⟩:=c8h (f:=g) (n:=s.Docs.length) (fun i (st:List E3×Int)=>st.2=(i:Int)∧st.1.length≤16) (fun r=>r.length≤16) F (by omega) (([]:List E3),(0:Int)) ⟨rfl,by simp⟩ (fun i st hi hs=>by
  subst hg
  obtain⟨s1,s2⟩:=st
  obtain⟨e1,e2⟩:=hs
  simp only at e1 e2
  subst e1
  obtain⟨v,hv⟩:=c8x h s.Docs[i].Id hq F (by omega)
  left
  dsimp only
  rw [b8 (by omega),j4,T5 hi,a8,hv,a8,y5 (by omega)]
  cases decide (0<v) with
  | false=>exact⟨_,rfl,rfl,e2⟩
  | true=>
   rw [j4,a8,show (16:Int)=((16:Nat):Int) from rfl,c3n F _ _ 16 (by omega) (by omega),a8]
   exact⟨_,rfl,rfl,by simp only [List.length_take];omega⟩) (fun st hs=>by
  subst hg
  obtain⟨s1,s2⟩:=st
  obtain⟨e1,e2⟩:=hs
  simp only at e1 e2
  subst e1
  dsimp only
  rw [c6 (by omega)]
  exact⟨_,rfl,e2⟩)
 rw [ht]
 exact⟨_,rfl,hp⟩
end Go.Fk
