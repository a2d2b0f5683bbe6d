/-
  What is only found. The law, on the models.
-/
import Derived.Test.YtnloenhmkdpgeaaGreatDoorModelLScoreFlat
import Derived.Test.YtnloenhmkdpgeaaGreatDoorLawNearS
import Derived.Test.YtnloenhmkdpgeaaGreatDoorLawMatchQ
set_option linter.unusedVariables false
namespace Go.Fk
open Go
theorem c7s {α:Type}{p:α→Bool}{xs:List α}{f:Bool×Int→Option ((Bool×Int)⊕Bool)}(h: ∀(i:Nat) x b,xs[i]? =some x→f (b,(i:Int))=some (.inl (b||p x,((i+1:Nat):Int))))
  (h0: ∀b,f (b,(xs.length:Int))=some (.inr b)): ∀(k i F:Nat) (b:Bool),i+k=xs.length→k<F→y2 f F (b,(i:Int))=some (b||(xs.drop i).any p)
 | 0,i,F,b,e,hF=>by
  obtain⟨F,rfl⟩: ∃G,F=G+1:=⟨F-1,by omega⟩
  rw [y2,show i=xs.length by omega,h0,List.drop_eq_nil_of_le (by omega)]
  simp
 | k+1,i,F,b,e,hF=>by
  obtain⟨F,rfl⟩: ∃G,F=G+1:=⟨F-1,by omega⟩
  have hi:i<xs.length:=by omega
  rw [y2,h i xs[i] b (j8 hi),List.drop_eq_getElem_cons hi,List.any_cons]
  simp only [a8,Sum.elim_inl]
  rw [c7s h h0 k (i+1) F _ (by omega) (by omega),Bool.or_assoc]
theorem c9c {α:Type}{p:α→Bool}{xs:List α}{f:Bool×Int→Option ((Bool×Int)⊕Bool)}(F:Nat)(hF:xs.length<F)(h: ∀(i:Nat) x b,xs[i]? =some x→f (b,(i:Int))=some (.inl (b||p x,((i+1:Nat):Int))))
  (h0: ∀b,f (b,(xs.length:Int))=some (.inr b)):y2 f F (false,(0:Int))=some (xs.any p):=by
 have:=c7s h h0 xs.length 0 F false (by omega) hF
 rwa [List.drop_zero,Bool.false_or] at this
theorem c7W (F:Nat)(code:List UInt8): ∃a b,p9 F code=some (a,b)∧a.length≤100:=by
 unfold p9 a7W
 obtain⟨r,hr,h1,h2⟩:=b0Q F code
 rw [hr,a8]
 obtain⟨a,hm,ha⟩:=a8q F r [[42],[99,42],[99,97,63],[42,115],[63,111,42],[99,42,116,42],[42,42,97],[42,63,42],[99,97,116],[116,63,112],[],[65,42],[63,42,63],[97,42,98,42,99,42,100,42,101,42,102,42,103],[42,63,97]] ⟨h1,by omega,by omega⟩ (by simp)
 rw [ha,a8,a8]
 dsimp only
 obtain⟨b,p',hb,_,_⟩:=b71 F ⟨r.b_,r.p_+1⟩ ⟨h1,by simp only;omega,by simp only;omega⟩
 rw [hb]
 exact⟨a,b,rfl,(by decide : ∀s∈([[42],[99,42],[99,97,63],[42,115],[63,111,42],[99,42,116,42],[42,42,97],[42,63,42],[99,97,116],[116,63,112],[],[65,42],[63,42,63],[97,42,98,42,99,42,100,42,101,42,102,42,103],[42,63,97]]:List r4),s.length≤100) a hm⟩
theorem c77 (F:Nat){c:u6}{s:A5}{q:q7}(id:Int)(hq:okQ 4 q=false)(hsm:a7Y 4 q)(hl:s.Docs.length≤1000000)(hs:X3 s.Docs)(hc:a1K 100 c)(hF:1000000100<F):N5 F c s q id=some 0∧Q9 F c s q id=some 0:=by
 have hst:=hc.stops.1
 constructor
 ·unfold N5
  rw [a8k,a8,a1T F c s (by omega) (by omega) (by omega),a8,b6S F q (by omega),hq]
  cases G9 c s<;>rfl
 ·unfold Q9
  rw [a9a F 100 c s hs hc (by omega) (by omega),a8,c2s F q hsm (by omega),hq]
  cases G9 c s<;>rfl
theorem c8z {n p:r4}(h:okQ 4 ⟨5,n,[p],0,0,[]⟩=true):a3D ⟨5,n,[p],0,0,[]⟩:=by
 have hg:=b22 4 _ h
 cases hg with
 | leaf h=>exact h
theorem c84 {n p:r4}(h:a3D ⟨5,n,[p],0,0,[]⟩):a8c p=true:=by
 cases h with
 | glob _ hp _=>exact hp
theorem c8R {c:u6}{s:A5}{q:q7}(hq:a3D q)(ho:G9 c s=true){x:A1}(hx:x∈s.Docs):L7 c s 4 q x.Id=b0y c s q x:=by
 unfold L7
 rw [if_pos ho,a5V ho hx]
 show C2 c s 4 q x=_
 rw [C2,if_pos (a85 hq)]
theorem c8Q (F:Nat)(p t:r4)(ht:D0 t=true)(hF:100<F):a2G F p t=some (a8c p&&a3S p t):=by
 cases hp:a8c p with
 | true=>rw [c0e F p t hp ht hF];rfl
 | false=>
  unfold a2G
  rw [a8g,a8,hp];rfl
theorem c7N (code more:List UInt8): ∃F,u4 F code more=some true:=by
 refine⟨2000000000,?_⟩
 generalize hF:2000000000=F
 unfold u4
 cases decide ((1048576:Int)<(code.length:Int))
 case true=>rfl
 cases decide ((1048576:Int)<(more.length:Int))
 case true=>rfl
 obtain⟨c,s,n,a,h1,hc,hs,hn,ha⟩:=a49 F code (by omega)
 obtain⟨p,p',h2,hp⟩:=c7W F more
 have hl:=hs.few
 have hst:=hc.stops.1
 have hnl:=O4 hn
 rw [i6,a8,i6,h1,a8,h2,a8]
 dsimp only
 have hspec:R4 F c s=some (G9 c s):=by
  unfold R4
  rw [a9a F 100 c s hs hc (by omega) (by omega)];rfl
 have hsame:((some (G9 c s)).bind fun r155=>((some (G9 c s)).bind fun r162=>(some (r155==r162))))=some true:=by
  rw [a8,a8,beq_self_eq_true]
 have hrem:a6g (more.length:Int) 4=some ((more.length%4:Nat):Int):=by
  unfold a6g
  rw [if_neg (by omega)]
  rfl
 generalize hk:more.length%4=k at hrem
 have hk2:k<4:=by omega
 rw [hrem,a8,a1T F c s (by omega) (by omega) (by omega),a8,hspec,hsame]
 cases ho:G9 c s with
 | false=>rfl
 | true=>
 have hfew:=a2D ho
 have htl:=b4o (s:=s) (n:=n)
 rw [l7,i6,b55 F c s n ho (by omega) (by omega) (by omega),a8]
 rw [b2T (n:=s.Docs.length) F (by omega) (fun i hi=>?_) ?_]
 ·rfl
 ·rw [c6 (by omega)];rfl
 ·have hx:s.Docs[i]∈s.Docs:=List.getElem_mem hi
  have hdoc:a5q s.Docs[i]=true:=b1h (a0w ho).2.1 _ hx
  have lr:a3D ⟨6,[114,97,116,101],[],(k:Int),(k:Int)+1,[]⟩:=.range (by decide) (by omega) (by omega) (by omega) (by omega)
  have er:b0y c s ⟨6,[114,97,116,101],[],(k:Int),(k:Int)+1,[]⟩ s.Docs[i]=if decide ((k:Int)≤b0C s.Docs[i] [114,97,116,101])&&decide (b0C s.Docs[i] [114,97,116,101]≤(k:Int)+1) then 100 else 0:=rfl
  have hany:(a1D s n).any (fun t=>a8c p&&a6U s n p s.Docs[i].Id t)=(a8c p&&b1Z s n p s.Docs[i].Id):=by
   cases a8c p with
   | true=>rfl
   | false=>simp
  rw [b8 (by omega),j4,T5 hi,a8,
   c9c (p:=fun t=>a8c p&&a6U s n p s.Docs[i].Id t) (xs:=a1D s n) F (by omega) (fun j t b ht=>?_) (fun b=>?_),a8,a8,a8,c0j F _ _ hdoc,a8,y5 (by omega),hany]
  ·have hw:((cond (decide ((k:Int)≤b0C s.Docs[i] [114,97,116,101])) (some (decide (b0C s.Docs[i] [114,97,116,101]≤((k+1:Nat):Int)))) (some false)):Option Bool)=some (decide ((k:Int)≤b0C s.Docs[i] [114,97,116,101])&&decide (b0C s.Docs[i] [114,97,116,101]≤(k:Int)+1)):=by
    cases decide ((k:Int)≤b0C s.Docs[i] [114,97,116,101])<;>rfl
   rw [hw,a8]
   have hc2: ∀b:Bool,((cond b (some 100) (some 0)):Option Int)=some (if b then 100 else 0):=fun b=>by cases b<;>rfl
   have hf2: ∀b:Bool,a5F F b=some (if b then 100 else 0):=fun b=>by unfold a5F;cases b<;>rfl
   rw [hc2,a8,show ((k+1:Nat):Int)=(k:Int)+1 by omega,a1U F (d:=1) (q:=⟨6,[114,97,116,101],[],(k:Int),(k:Int)+1,[]⟩) _ (.leaf lr) (by omega) (by omega) (by omega) (by omega),a86 lr ho hx,er,b6S F _ (by omega)]
   generalize (if (decide ((k:Int)≤b0C s.Docs[i] [114,97,116,101])&&decide (b0C s.Docs[i] [114,97,116,101]≤(k:Int)+1))=true then (100:Int) else 0)=v
   have hsm:a7Y 4 ⟨5,n,[p],0,0,[]⟩:=⟨by show n.length≤_;omega,by simp,fun w hw=>by rw [List.mem_singleton.1 hw];omega,by simp,fun k hk=>by cases hk⟩
   cases hq:okQ 4 ⟨5,n,[p],0,0,[]⟩ with
   | false=>
    obtain⟨s1,s2⟩:=c77 F (c:=c) (s:=s) s.Docs[i].Id hq hsm (by omega) hs hc (by omega)
    rw [s1,s2,a8,a8,beq_self_eq_true,l7,i6,a8,beq_self_eq_true,l7,i6,a8,i6,a8,i6,y5 (by omega)]
   | true=>
    have lg:=c8z hq
    have hg:=b22 4 _ hq
    have eg:b0y c s ⟨5,n,[p],0,0,[]⟩ s.Docs[i]=if b1Z s n p s.Docs[i].Id then 100 else 0:=rfl
    rw [a1U F (d:=4) _ hg (by omega) (by omega) (by omega) (by omega),a5L F (d:=4) _ hg (by omega) hs hc (by omega),c8R lg ho hx,eg,c84 lg,u5,a8,a8,beq_self_eq_true,l7,i6,a8,beq_self_eq_true,l7,i6,a8,j4,hf2,a8,beq_self_eq_true,l7,a8,i6,y5 (by omega)]
  ·have hj:=(i4.1 ht).1
   have htw:=a8R ho (n5 ht)
   dsimp only
   rw [b8 (by omega),j4,y5 (by omega),n8,ht,a8,c8Q F p t htw (by omega),a8,a8,a9y F c s n _ (by omega) (by omega) (by omega),if_pos ho,a8,c4J F s n _ _ (a4A ho n t).1 (by omega),a8]
   have hdec:decide ((0:Int)<((atS s n t s.Docs[i].Id).length:Int))=decide (0<(atS s n t s.Docs[i].Id).length):=by
    by_cases h0:0<(atS s n t s.Docs[i].Id).length
    ·rw [b8 h0,b8 (by omega)]
    ·rw [c6 h0,c6 (by omega)]
   unfold a6U
   rw [hdec]
   cases b<;>cases a8c p<;>cases a3S p t<;>rfl
  ·dsimp only
   rw [c6 (by omega)];rfl
end Go.Fk
