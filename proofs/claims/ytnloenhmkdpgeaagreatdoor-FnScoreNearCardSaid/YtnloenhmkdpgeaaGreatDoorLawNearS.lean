/-
  Words that are near. The law, on the models.
-/
import Derived.Test.YtnloenhmkdpgeaaGreatDoorModelLScoreNear
import Derived.Test.YtnloenhmkdpgeaaGreatDoorLawTermS
set_option linter.unusedVariables false
namespace Go.Fk
open Go
theorem b92 (F:Nat)(c:u6)(s:A5)(n t:r4)(id:Int)(ho:G9 c s=true)(hd:s.Docs.length≤1000000)(hc:c.Stops.length≤2000000)(hF:1000000000<F):a17 F c s n t id=some ((H2 c s n t id:Nat):Int):=by
 obtain⟨k1,k2,k3⟩:=a0w ho
 unfold a17 H2
 rw [a9y F c s n _ (by omega) (by omega) (by omega),if_pos ho,a8,c4J F s n _ _ (a4A ho n t).1 (by omega),a8]
 by_cases h0:(atS s n t id).length=0
 ·rw [if_pos h0,beq_iff_eq.2 (by omega)];rfl
 have hlong: ∀id,N6 F c s n id=some (M8 c s.Docs n id:Int):=fun id=>by
  rw [b0w F c s n id (by omega) (by omega) (by omega)]
  unfold b87
  rw [if_pos ho]
 have htot:y2 (σ:=Int×Int) (τ:=Int) (fun (s134:Int×Int)=>(cond (decide (s134.2<(s.Docs.length:Int))) ((v8 s.Docs s134.2).bind fun x150=>((N6 F c s n x150.Id).bind fun r168=>(some (.inl ((z8 (s134.1+r168)),(z8 (s134.2+1))))))) (some (.inr s134.1)))) F (0,0)=some ((a7i c s.Docs n:Nat):Int):=by
  refine b3I (I7 (Post:=fun a=>a=((a7i c s.Docs n:Nat):Int)) (fun i (st:Int×Int)=>st=(((((s.Docs.take i).map fun d=>(G2 c (H7 d n)).length).sum:Nat):Int),(i:Int))) s.Docs.length (fun i st hi hst=>?_) (fun st hst=>?_) s.Docs.length 0 ((0:Int),(0:Int)) F (by omega) (by omega) (by simp))
  ·subst hst
   have hb:=b4n (c:=c) k2 n (i+1)
   refine .inl ⟨_,?_,rfl⟩
   dsimp only
   rw [b8 (by omega),j4,T5 hi,a8,hlong,a8,y5 (by omega),b5Q k2 n (List.getElem_mem hi)]
   rw [List.take_succ_eq_append_getElem hi,List.map_append,List.sum_append] at hb ⊢
   simp only [List.map_cons,List.map_nil,List.sum_cons,List.sum_nil,Nat.add_zero] at hb ⊢
   rw [a5N (by omega)]
  ·subst hst
   refine⟨_,by dsimp only;rw [c6 (by omega)];rfl,?_⟩
   rw [List.take_length];rfl
 have hsc:a2z (atS s n t id).length (M8 c s.Docs n id) (a7i c s.Docs n) s.Docs.length (G3 s n t).length:=by
  have:=a7a (c:=c) k2 (n:=n) (t:=t) (id:=id)
  rw [←k3] at this
  exact this h0
 have hu:=b4q hsc
 have hdn:=a7m hsc
 rw [if_neg h0,beq_eq_false_iff_ne.2 (by omega),i6,htot,a8,a8,hlong,a8,b1n F _ _ _ _ _ hsc (by omega),a8,a8]
 dsimp only
 rw [a9V F _ _ (by omega) ⟨hdn.1,by omega⟩ (by omega),a8];rfl
theorem b55 (F:Nat)(c:u6)(s:A5)(n:r4)(ho:G9 c s=true)(hd:s.Docs.length≤1000000)(hc:c.Stops.length≤2000000)(hF:1000000000<F):a12 F c s n=some (a1D s n):=by
 unfold a12
 rw [a1T F c s (by omega) hc (by omega),a8,ho,l7,i6,show a3h F s n=some (a1D s n) from a8l F c s n (a2D ho).1];rfl
theorem c0w {p:Nat}{d:Int}(hp:p≤1000000000)(h0:0≤d)(h2:d≤100):a3s (z8 ((p:Int)*z8 (3-d))) 3=some (((p:Int)*(3-d)).tdiv 3):=by
 have e1:z8 (3-d)=3-d:=C5 ⟨by omega,by omega⟩
 have u:(p:Int)*(3-d)≤(p:Int)*3:=Int.mul_le_mul_of_nonneg_left (by omega) (by omega)
 have l:(p:Int)*(-97)≤(p:Int)*(3-d):=Int.mul_le_mul_of_nonneg_left (by omega) (by omega)
 have e2:z8 ((p:Int)*(3-d))=(p:Int)*(3-d):=C5 ⟨by omega,by omega⟩
 rw [e1,e2]
 generalize (p:Int)*(3-d)=a at *
 have e3:z8 (a.tdiv 3)=a.tdiv 3:=by
  by_cases h:a<0
  ·have h4:=Int.neg_tdiv (-a) 3
   rw [Int.neg_neg] at h4
   rw [h4,Int.tdiv_eq_ediv_of_nonneg (by omega)]
   exact C5 ⟨by omega,by omega⟩
  ·rw [Int.tdiv_eq_ediv_of_nonneg (by omega)]
   exact C5 ⟨by omega,by omega⟩
 rw [a3s,if_neg (by omega),e3]
theorem b71 (F:Nat)(r:z7)(hr:b6l r 900000): ∃s p,a1r F r=some (s,⟨r.b_,p⟩)∧b2n r p 1∧D0 s=true:=by
 obtain⟨h1,h2,h3⟩:=hr
 unfold a1r
 obtain⟨s,hs,e⟩:=a8q F r [[99,97,116],[99,97,116,115],[99,97,114],[99,97,114,116],[100,111,103],[116,97,112],[116,111,112,115],[97,98,99,100,101,102,103,104,105,106,107,108],[97],[97,99,97,116]] ⟨h1,h2,by omega⟩ (by simp)
 rw [e,a8]
 exact⟨s,_,rfl,⟨by omega,by omega⟩,(by decide : ∀s∈([[99,97,116],[99,97,116,115],[99,97,114],[99,97,114,116],[100,111,103],[116,97,112],[116,111,112,115],[97,98,99,100,101,102,103,104,105,106,107,108],[97],[97,99,97,116]]:List r4),D0 s=true) s hs⟩
theorem b5D (F:Nat)(code:List UInt8): ∃a b,a0o F code=some (a,b)∧D0 a=true:=by
 unfold a0o
 obtain⟨r,hr,h1,h2⟩:=b0Q F code
 rw [hr,a8]
 obtain⟨a,p,ha,⟨p0,p1⟩,hw⟩:=b71 F r ⟨h1,by omega,by omega⟩
 rw [ha,a8]
 dsimp only
 obtain⟨x,hx,_,_⟩:=O3 F ⟨r.b_,p⟩ 10 ⟨h1,by simp only;omega,by simp only;omega⟩
 rw [hx,a8]
 dsimp only
 cases x==(0:Int)
 ·obtain⟨b,p',hb,_,_⟩:=b71 F ⟨r.b_,p+1⟩ ⟨h1,by simp only;omega,by simp only;omega⟩
  rw [i6,hb]
  exact⟨a,b,rfl,hw⟩
 ·exact⟨a,_,rfl,hw⟩
theorem b4D (code more:List UInt8): ∃F,a1N F code more=some true:=by
 refine⟨2000000000,?_⟩
 generalize hF:2000000000=F
 unfold a1N
 cases decide ((1048576:Int)<(code.length:Int))
 case true=>rfl
 cases decide ((1048576:Int)<(more.length:Int))
 case true=>rfl
 obtain⟨c,s,n,a,h1,hc,hs,hn,ha⟩:=a49 F code (by omega)
 obtain⟨w,w',h2,hw⟩:=b5D F more
 have hl:=hs.few
 have hst:=hc.stops.1
 rw [i6,a8,i6,h1,a8,h2,a8]
 dsimp only
 have hspec:R4 F c s=some (G9 c s):=by
  unfold R4
  rw [a9a F 100 c s hs hc (by omega) (by omega)];rfl
 have hsame:((some (G9 c s)).bind fun r155=>((some (G9 c s)).bind fun r162=>(some (r155==r162))))=some true:=by
  rw [a8,a8,beq_self_eq_true]
 rw [a1T F c s (by omega) (by omega) (by omega),a8,hspec,hsame]
 cases ho:G9 c s with
 | false=>rfl
 | true=>
 have hrem:a6g (more.length:Int) 2=some ((more.length%2:Nat):Int):=by
  unfold a6g
  rw [if_neg (by omega)]
  rfl
 generalize hk:more.length%2=k at hrem
 have hk2:k<2:=by omega
 have hw1:z8 ((1:Int)+(k:Int))=1+(k:Int):=C5 ⟨by omega,by omega⟩
 have hfew:=a2D ho
 have htl:=b4o (s:=s) (n:=n)
 have hwl:=O4 hw
 rw [l7,i6,hrem,a8,b55 F c s n ho (by omega) (by omega) (by omega),a8]
 simp only [hw1]
 have lq:a3D ⟨4,n,[w],1+(k:Int),0,[]⟩:=.near hn hw (by omega) (by omega)
 rw [b2T (n:=s.Docs.length) F (by omega) (fun i hi=>?_) ?_]
 ·rfl
 ·rw [c6 (by omega)];rfl
 ·have hx:s.Docs[i]∈s.Docs:=List.getElem_mem hi
  have e3:b0y c s ⟨4,n,[w],1+(k:Int),0,[]⟩ s.Docs[i]=a8p c s n w (1+(k:Int)) s.Docs[i].Id:=rfl
  rw [b8 (by omega),j4,T5 hi,a8,a1U F (d:=1) _ (.leaf lq) (by omega) (by omega) (by omega) (by omega),a8,a86 lq ho hx,e3,
   b1Y (xs:=a1D s n) (a3U c s n w (1+(k:Int)) s.Docs[i].Id) F (by omega) (by omega) (fun j t b ht=>?_) (fun b=>?_) (0:Int),a8,a8,a5L F (d:=1) _ (.leaf lq) (by omega) hs hc (by omega),a8,a86 lq ho hx,e3,beq_self_eq_true,l7,i6]
  ·show ((some (!(a8p c s n w (1+(k:Int)) s.Docs[i].Id==a8p c s n w (1+(k:Int)) s.Docs[i].Id))).bind _)=_
   rw [beq_self_eq_true,l7,a8,i6,y5 (by omega)]
  ·have hj:=(i4.1 ht).1
   have htw:=a8R ho (n5 ht)
   have htl:=O4 htw
   have hfp:=b2W t w
   dsimp only
   rw [b8 (by omega),j4,n8,ht,a8,b66 F t w htw hw (by omega),a8,a8,b92 F c s n t _ ho (by omega) (by omega) (by omega),a8,c0w (a4b c s n t _ ho) hfp.1 (by omega),a8,y5 (by omega)]
   unfold a3U
   by_cases hd:b2p t w≤1+(k:Int)
   ·rw [b8 hd,j4,a8,if_pos rfl]
    unfold b48
    by_cases hb:b<(((H2 c s n t s.Docs[i].Id:Nat):Int)*(3-b2p t w)).tdiv 3
    ·rw [b8 hb,if_pos hb];rfl
    ·rw [c6 hb,if_neg hb];rfl
   ·rw [c6 hd,i6,if_neg (by simp)];rfl
  ·dsimp only
   rw [c6 (by omega)];rfl
end Go.Fk
