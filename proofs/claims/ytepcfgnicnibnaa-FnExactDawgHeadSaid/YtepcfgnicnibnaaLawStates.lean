/-
  The exact rows' helpers over states: sizes, copies, sameness. Of no program.
-/
import Derived.Test.YtepcfgnicnibnaaLawSpecAll
import Derived.Test.YtepcfgnicnibnaaLawOk
namespace Go.Fk
open Go
theorem copy_while {α β:Type}{xs:List α}{g:α→β}{z:β}{f:Int×List β→Option ((Int×List β)⊕List β)}
  (h: ∀(i:Nat) x (out:List β),xs[i]? =some x→out.length=xs.length→f ((i:Int),out)=some (.inl (((i+1:Nat):Int),out.set i (g x))))
  (h0: ∀out:List β,out.length=xs.length→f ((xs.length:Int),out)=some (.inr out))(F:Nat)(hF:xs.length<F):whileM f F ((0:Int),List.replicate xs.length z)=some (xs.map g):=by
 have key:=fun step fin=>whileM_run (σ:=Int×List β) (τ:=List β) (f:=f) (Post:=fun t=>t=xs.map g) (fun i s=>s.1=(i:Int)∧s.2=(xs.take i).map g++List.replicate (xs.length-i) z) xs.length step fin xs.length 0
  ((0:Int),List.replicate xs.length z) F (by omega) hF ⟨rfl,by simp⟩
 obtain⟨t,ht,hp⟩:=key (fun i s hi hs=>by
   obtain⟨s1,s2⟩:=s
   obtain⟨h1,h2⟩:=hs
   simp only at h1 h2
   have hlen:s2.length=xs.length:=by rw [h2];simp;omega
   rw [h1,h i xs[i] s2 (List.getElem?_eq_getElem hi) hlen]
   refine .inl ⟨_,rfl,rfl,?_⟩
   simp only
   rw [h2]
   apply List.ext_getElem?
   intro j
   rw [List.getElem?_set]
   simp only [List.length_append,List.length_map,List.length_take,List.length_replicate]
   by_cases hij:i=j
   ·subst hij
    rw [if_pos rfl,if_pos (by omega),List.getElem?_append_left (by simp;omega),List.getElem?_map,List.getElem?_take,if_pos (by omega),List.getElem?_eq_getElem hi]
    rfl
   ·rw [if_neg hij]
    rcases Nat.lt_or_ge j i with hlt | hge
    ·rw [List.getElem?_append_left (by simp;omega),List.getElem?_append_left (by simp;omega),List.getElem?_map,List.getElem?_map,List.getElem?_take,List.getElem?_take,if_pos hlt,if_pos (by omega)]
    ·rw [List.getElem?_append_right (by simp;omega),List.getElem?_append_right (by simp;omega),List.getElem?_replicate,List.getElem?_replicate]
     simp only [List.length_map,List.length_take]
     congr 1
     apply propext
     omega) (fun s hs=>by
   obtain⟨s1,s2⟩:=s
   obtain⟨h1,h2⟩:=hs
   simp only at h1 h2
   have hlen:s2.length=xs.length:=by rw [h2];simp
   rw [h1,h0 s2 hlen]
   exact⟨_,rfl,by rw [h2];simp⟩)
 rw [ht,hp]
theorem makeL_ok {α:Type}{n:Nat}(b:Nat)(z:α)(h:n*b≤140737488355328)(h2:n≤1000000000):makeL b (n:Int) z=some (List.replicate n z):=by
 unfold makeL
 rw [if_pos ⟨by omega,by omega⟩,Int.toNat_natCast]
theorem toArcS_ok (F:Nat)(xs:List GArc)(hF:xs.length<F)(hl:xs.length≤1048576):M.laws_toArcS F xs=some xs:=by
 unfold M.laws_toArcS
 rw [makeL_ok 16 _ (by omega) (by omega),Option.bind_some,copy_while (g:=fun a:GArc=>a) (fun i x out hx hlen=>?_) (fun out hlen=>?_) F hF]
 ·rw [List.map_id'];rfl
 ·have hi:=(List.getElem?_eq_some_iff.1 hx).1
  dsimp only
  rw [decide_eq_true (by omega),cond_true,getI_n,hx,Option.bind_some]
  unfold M.laws_toArc
  rw [Option.bind_some,getI_n,List.getElem?_eq_getElem (show i<out.length by omega),Option.bind_some,w64_succ' (by omega),Int.toNat_natCast]
 ·dsimp only
  rw [decide_eq_false (by omega)];rfl
theorem toState_ok (F:Nat)(s:GState)(hF:s.Arcs.length<F)(hl:s.Arcs.length≤1048576):M.laws_toState F s=some s:=by
 unfold M.laws_toState
 rw [toArcS_ok F _ hF hl];rfl
theorem toStateS_ok (F:Nat)(xs:List GState)(hF:2000000<F)(hl:xs.length≤1048576)(ha: ∀s∈xs,s.Arcs.length≤1048576):M.laws_toStateS F xs=some xs:=by
 unfold M.laws_toStateS
 rw [makeL_ok 40 _ (by omega) (by omega),Option.bind_some,copy_while (g:=fun a:GState=>a) (fun i x out hx hlen=>?_) (fun out hlen=>?_) F (by omega)]
 ·rw [List.map_id'];rfl
 ·have hi:=(List.getElem?_eq_some_iff.1 hx).1
  have hxa:=ha x (List.mem_of_getElem? hx)
  dsimp only
  rw [decide_eq_true (by omega),cond_true,getI_n,hx,Option.bind_some,toState_ok F x (by omega) hxa,Option.bind_some,getI_n,List.getElem?_eq_getElem (show i<out.length by omega),Option.bind_some,w64_succ' (by omega),Int.toNat_natCast]
 ·dsimp only
  rw [decide_eq_false (by omega)];rfl
theorem szState_ok (F:Nat)(s:GState)(left:Int)(h0:0≤left)(h1:left≤1048576)(hl:s.Arcs.length≤maxLen):
  ∃r,M.laws_szState F s left=some r∧(r= -1∨(0≤r∧r≤left∧(s.Arcs.length:Int)≤left)):=by
 have hm:maxLen≤9223372036854775807:=by decide
 unfold M.laws_szState M.laws_szArcS
 rw [w64_of ⟨by omega,by omega⟩]
 by_cases h:left-(s.Arcs.length:Int)<0
 ·rw [decide_eq_true h]
  exact⟨_,rfl,.inl rfl⟩
 ·rw [decide_eq_false h,cond_false,Option.bind_some,decide_eq_false h]
  exact⟨_,rfl,.inr ⟨by omega,by omega,by omega⟩⟩
theorem szStateS_ok (F:Nat)(xs:List GState)(hF:2000000<F)(hl:xs.length≤maxLen)(ha: ∀s∈xs,s.Arcs.length≤maxLen):
  ∃r,M.laws_szStateS F xs 1048576=some r∧(0≤r→xs.length≤1048576∧∀s∈xs,s.Arcs.length≤1048576):=by
 have hm:maxLen≤9223372036854775807:=by decide
 unfold M.laws_szStateS
 have e1:w64 (1048576-(xs.length:Int))=1048576-(xs.length:Int):=w64_of ⟨by omega,by omega⟩
 rw [e1]
 by_cases h:(1048576:Int)-(xs.length:Int)<0
 ·rw [decide_eq_true h]
  exact⟨-1,rfl,fun h=>by omega⟩
 ·rw [decide_eq_false h,cond_false]
  have key:=fun f step fin=>whileM_run (σ:=Int×Int) (τ:=Int⊕Int) (f:=f) (Post:=fun t=>t.elim (fun r=>∀s∈xs,s.Arcs.length≤1048576) (fun r=>r= -1))
   (fun i s=>s.2=(i:Int)∧0≤s.1∧s.1≤1048576∧∀s∈xs.take i,s.Arcs.length≤1048576) xs.length step fin xs.length 0 (1048576-(xs.length:Int),(0:Int)) F (by omega) (by omega) ⟨rfl,by omega,by omega,by simp⟩
  generalize hf:(fun (s17:Int×Int)=>_:Int×Int→Option ((Int×Int)⊕(Int⊕Int)))=f
  obtain⟨t,ht,hp⟩:=key f (fun i s hi hs=>by
   subst hf
   obtain⟨s1,s2⟩:=s
   obtain⟨h1,h2,h3,h4⟩:=hs
   simp only at h1 h2 h3
   subst h1
   dsimp only
   obtain⟨r,hr,hr2⟩:=szState_ok F xs[i] s1 h2 h3 (ha _ (List.getElem_mem hi))
   rw [decide_eq_true (by omega),cond_true,getI_at hi,Option.bind_some,hr,Option.bind_some,w64_succ' (by omega)]
   rcases hr2 with rfl | ⟨a1,a2,a3⟩
   ·exact .inr ⟨_,rfl,rfl⟩
   ·rw [decide_eq_false (by omega)]
    refine .inl ⟨_,rfl,rfl,a1,by simp only;omega,fun s hs=>?_⟩
    rw [List.take_succ_eq_append_getElem hi] at hs
    rcases List.mem_append.1 hs with h | h
    ·exact h4 s h
    ·rw [List.mem_singleton.1 h];omega) (fun s hs=>by
   subst hf
   obtain⟨s1,s2⟩:=s
   obtain⟨h1,h2,h3,h4⟩:=hs
   simp only at h1 h2 h3
   subst h1
   dsimp only
   rw [decide_eq_false (by omega)]
   exact⟨_,rfl,by rw [List.take_length] at h4;exact h4⟩)
  rw [ht]
  cases t with
  | inl r=>exact⟨_,rfl,fun _=>⟨by omega,hp⟩⟩
  | inr r=>
   have:r= -1:=hp
   subst this
   exact⟨-1,rfl,fun h=>by omega⟩
theorem eqArcS_self (F:Nat)(x:List GArc)(hF:x.length<F)(hl:x.length≤1048576):M.laws_eqArcS F x x=some true:=by
 unfold M.laws_eqArcS
 rw [beq_self_eq_true,Bool.not_true,cond_false,clean0' (n:=x.length) F hF (fun i hi=>?_) ?_]
 ·rfl
 ·rw [decide_eq_false (by omega)];rfl
 ·rw [decide_eq_true (by omega),cond_true,getI_at hi,Option.bind_some,Option.bind_some,w64_succ' (by omega)]
  unfold M.laws_eqArc
  simp
theorem eqState_self (F:Nat)(x:GState)(hF:x.Arcs.length<F)(hl:x.Arcs.length≤1048576):M.laws_eqState F x x=some true:=by
 unfold M.laws_eqState
 rw [beq_self_eq_true,beq_self_eq_true,eqArcS_self F _ hF hl];rfl
theorem eqStateS_self (F:Nat)(x:List GState)(hF:2000000<F)(hl:x.length≤1048576)(ha: ∀s∈x,s.Arcs.length≤1048576):M.laws_eqStateS F x x=some true:=by
 unfold M.laws_eqStateS
 rw [beq_self_eq_true,Bool.not_true,cond_false,clean0' (n:=x.length) F (by omega) (fun i hi=>?_) ?_]
 ·rfl
 ·rw [decide_eq_false (by omega)];rfl
 ·have:=ha x[i] (List.getElem_mem hi)
  rw [decide_eq_true (by omega),cond_true,getI_at hi,Option.bind_some,Option.bind_some,w64_succ' (by omega),eqState_self F _ (by omega) this]
  rfl
theorem arcs_max {K:KMap}{a:Option Addr}{n c:Nat}{xs:List GState}(hs:SliceAt tGState K a n c xs): ∀s∈xs,s.Arcs.length≤maxLen:=fun s h=>by
 obtain⟨i,hi⟩:=List.getElem?_of_mem h
 have hlt:=(List.getElem?_eq_some_iff.1 hi).1
 obtain⟨e1,e2,_,e4⟩:=hs
 obtain⟨b,o,_,h5⟩:=e4 (by omega)
 obtain⟨u,hu,_⟩:=h5 i s hi
 obtain⟨_,_,_,_,_,h6⟩:=hu
 exact h6.max
end Go.Fk
