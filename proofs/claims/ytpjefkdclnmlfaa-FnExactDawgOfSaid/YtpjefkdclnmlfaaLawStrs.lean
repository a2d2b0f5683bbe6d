/-
  Lists of texts: sizes, copies, sameness, marks. Of no program.
-/
import Derived.Test.YtpjefkdclnmlfaaLawMarks
set_option linter.unusedVariables false
namespace Go.Fk
open Go
def SzD (S:Prop)(left:Int)(o:Option Int):Prop:=∃r,o=some r∧(0≤r→r≤left∧S)
theorem sz_loopD {α:Type}{xs:List α}{S:α→Prop}{f:Int×Int→Option ((Int×Int)⊕(Int⊕Int))}{left:Int}(h1:left≤1048576)
  (h: ∀(i:Nat) x (l:Int),i<xs.length→xs[i]? =some x→0≤l→l≤1048576→f (l,(i:Int))=some (.inr (.inr (-1)))∨∃r,0≤r∧r≤l∧S x∧f (l,(i:Int))=some (.inl (r,((i+1:Nat):Int))))
  (hE: ∀l,f (l,(xs.length:Int))=some (.inr (.inl l))): ∀(k i:Nat) (l:Int) (F:Nat),i+k=xs.length→k<F→0≤l→l≤left→(∀x∈xs.take i,S x)→∃t,whileM f F (l,(i:Int))=some t∧(t= .inr (-1)∨∃r,t= .inl r∧0≤r∧r≤left∧∀x∈xs,S x)
 | 0,i,l,F,e,hF,l0,l1,hS=>by
  obtain⟨F,rfl⟩: ∃G,F=G+1:=⟨F-1,by omega⟩
  obtain rfl:i=xs.length:=by omega
  rw [whileM,hE]
  rw [List.take_of_length_le (Nat.le_refl _)] at hS
  exact⟨.inl l,rfl,.inr ⟨l,rfl,l0,l1,hS⟩⟩
 | k+1,i,l,F,e,hF,l0,l1,hS=>by
  obtain⟨F,rfl⟩: ∃G,F=G+1:=⟨F-1,by omega⟩
  have hi:i<xs.length:=by omega
  rw [whileM]
  rcases h i xs[i] l hi (List.getElem?_eq_getElem hi) l0 (by omega) with h' | ⟨r,r0,r1,hs,h'⟩
  ·rw [h'];exact⟨_,rfl,.inl rfl⟩
  ·rw [h',Option.bind_some]
   refine sz_loopD h1 h hE k (i+1) r F (by omega) (by omega) r0 (by omega) fun x hx=>?_
   rw [List.take_add_one,List.getElem?_eq_getElem hi] at hx
   rcases List.mem_append.1 hx with hx | hx
   ·exact hS x hx
   ·simp at hx;subst hx;exact hs
theorem sz_genD {α:Type}{xs:List α}(S:α→Prop){f:Int×Int→Option ((Int×Int)⊕(Int⊕Int))}{left:Int}(F:Nat)(hF:1048577<F)(h0:0≤left)(h1:left≤1048576)(hl:xs.length≤maxLen)
  (h: ∀(i:Nat) x (l:Int),i<xs.length→xs.length≤1048576→xs[i]? =some x→0≤l→l≤1048576→f (l,(i:Int))=some (.inr (.inr (-1)))∨∃r,0≤r∧r≤l∧S x∧f (l,(i:Int))=some (.inl (r,((i+1:Nat):Int))))
  (hE: ∀l,f (l,(xs.length:Int))=some (.inr (.inl l))):
  SzD (xs.length≤1048576∧∀x∈xs,S x) left (cond (decide ((w64 (left-(xs.length:Int)))<(0:Int))) (some (-1:Int)) (Option.bind ((Option.bind (whileM f F ((w64 (left-(xs.length:Int))),(0:Int))) fun r18=>(r18.elim (fun t46=>(some (.inl t46))) (fun t47=>(some (.inr t47))))):Option ((Int)⊕(Int))) fun o8=>o8.elim (fun s11=>(some s11)) (fun t48=>(some t48)))):=by
 have hm:maxLen≤9223372036854775807:=by decide
 have e1:w64 (left-(xs.length:Int))=left-(xs.length:Int):=w64_of ⟨by omega,by omega⟩
 rw [e1]
 by_cases hneg:left-(xs.length:Int)<0
 ·rw [decide_eq_true hneg]
  exact⟨-1,rfl,fun h=>by omega⟩
 ·rw [decide_eq_false hneg,cond_false]
  obtain⟨t,ht,hp⟩:=sz_loopD (S:=S) (xs:=xs) (f:=f) (left:=left) h1 (fun i x l hi hx l0 l1=>h i x l hi (by omega) hx l0 l1) hE xs.length 0 (left-(xs.length:Int)) F (by omega) (by omega) (by omega) (by omega) (by simp)
  rw [show (0:Int)=((0:Nat):Int) from rfl,ht]
  rcases hp with rfl | ⟨r,rfl,r0,r1,hS⟩
  ·exact⟨-1,rfl,fun h=>by omega⟩
  ·exact⟨r,rfl,fun _=>⟨r1,by omega,hS⟩⟩
theorem szStrsD (F:Nat)(xs:List Str)(left:Int)(h0:0≤left)(h1:left≤1048576)(hF:2000000<F)(hl:xs.length≤maxLen∧∀s∈xs,s.length≤maxLen):SzD (xs.length≤1048576∧∀s∈xs,s.length≤1048576) left (M.laws_szStringS F xs left):=by
 unfold M.laws_szStringS
 refine sz_genD (fun s:Str=>s.length≤1048576) F (by omega) h0 h1 hl.1 (fun i x l hi hxl hx l0 l1=>?_) fun l=>?_
 ·rw [decide_eq_true (by omega),cond_true,getI_nat',hx,Option.bind_some,w64_succ' (by omega)]
  have hm:maxLen≤9223372036854775807:=by decide
  have hxm:=hl.2 x (List.mem_of_getElem? hx)
  rw [w64_of (n:=l-(x.length:Int)) ⟨by omega,by omega⟩]
  by_cases hneg:l-(x.length:Int)<0
  ·rw [decide_eq_true hneg];exact .inl rfl
  ·rw [decide_eq_false hneg];exact .inr ⟨l-(x.length:Int),by omega,by omega,by omega,rfl⟩
 ·rw [decide_eq_false (by omega)];rfl
theorem to_loopD {α:Type}{xs:List α}{f:Int×List α→Option ((Int×List α)⊕List α)}(h: ∀(i:Nat) x (s:List α),xs[i]? =some x→i<s.length→f ((i:Int),s)=some (.inl (((i+1:Nat):Int),s.set i x)))
  (hE: ∀s,f ((xs.length:Int),s)=some (.inr s)): ∀(k i F:Nat) (s:List α),i+k=xs.length→k<F→s.length=xs.length→s.take i=xs.take i→whileM f F ((i:Int),s)=some xs
 | 0,i,F,s,e,hF,hl,hs=>by
  obtain⟨F,rfl⟩: ∃G,F=G+1:=⟨F-1,by omega⟩
  obtain rfl:i=xs.length:=by omega
  rw [whileM,hE]
  rw [List.take_of_length_le (by omega),List.take_of_length_le (Nat.le_refl _)] at hs
  rw [hs];rfl
 | k+1,i,F,s,e,hF,hl,hs=>by
  obtain⟨F,rfl⟩: ∃G,F=G+1:=⟨F-1,by omega⟩
  have hi:i<xs.length:=by omega
  rw [whileM,h i xs[i] s (List.getElem?_eq_getElem hi) (by omega),Option.bind_some]
  refine to_loopD h hE k (i+1) F _ (by omega) (by omega) (by rw [List.length_set];exact hl) ?_
  rw [List.take_add_one,List.take_add_one,List.getElem?_set_self (by omega),List.getElem?_eq_getElem hi,List.take_set_of_le (Nat.le_refl _),hs]
theorem to_genD {α:Type}{xs:List α}{z:α}{b:Nat}{f:Int×List α→Option ((Int×List α)⊕List α)}(F:Nat)(hb:b≤100)(hF:1048577<F)(hl:xs.length≤1048576)(h: ∀(i:Nat) x (s:List α),xs[i]? =some x→i<s.length→f ((i:Int),s)=some (.inl (((i+1:Nat):Int),s.set i x)))
  (hE: ∀s,f ((xs.length:Int),s)=some (.inr s)):(Option.bind (makeL b (xs.length:Int) z) fun x5=>(Option.bind ((Option.bind (whileM f F ((0:Int),x5)) fun r27=>(some r27)):Option (List α)) fun o16=>(some o16)))=some xs:=by
 have hm:makeL b (xs.length:Int) z=some (List.replicate xs.length z):=by
  unfold makeL
  rw [if_pos ⟨by omega,by
   have h1:=Nat.mul_le_mul hl hb
   have h2:((xs.length*b:Nat):Int)≤((1048576*100:Nat):Int):=Int.ofNat_le.2 h1
   rw [Int.natCast_mul] at h2
   omega⟩,Int.toNat_natCast]
 rw [hm,Option.bind_some,show (0:Int)=((0:Nat):Int) from rfl,to_loopD h hE xs.length 0 F _ (by omega) (by omega) (by simp) (by simp)];rfl
theorem toStrsD (F:Nat)(xs:List Str)(hF:2000000<F)(hl:xs.length≤1048576):M.laws_toStringS F xs=some xs:=by
 unfold M.laws_toStringS
 refine to_genD F (by omega) (by omega) hl (fun i x s hx hi=>?_) fun s=>?_
 ·have hix:=(List.getElem?_eq_some_iff.1 hx).1
  have hle:=hl
  rw [decide_eq_true (by omega),cond_true,getI_nat',hx,Option.bind_some,getI_nat',List.getElem?_eq_getElem hi,Option.bind_some,w64_succ' (by omega),Int.toNat_natCast]
 ·rw [decide_eq_false (by omega)];rfl
theorem eqStrsD (F:Nat)(xs:List Str)(hF:2000000<F)(hl:xs.length≤1048576):M.laws_eqStringS F xs xs=some true:=by
 have hle:=hl
 unfold M.laws_eqStringS
 rw [beq_self_eq_true,Bool.not_true,cond_false,clean0' (n:=xs.length) F (by omega) (fun i hi=>?_) ?_]
 ·rfl
 ·rw [decide_eq_false (by omega)];rfl
 ·rw [decide_eq_true (by omega),cond_true,getI_at hi,Option.bind_some,Option.bind_some,beq_self_eq_true,w64_succ' (by omega)]
  rfl
theorem mk_loopD {α:Type}{xs:List α}{f:Int×Int→Option ((Int×Int)⊕Int)}(B F:Nat)(hl:xs.length≤1048576)(hF:2000000<F)(k:Nat)(hk:k+1048576*B≤9000000000000000000)
  (h: ∀(i v:Nat) x,xs[i]? =some x→i<xs.length→v+B≤9000000000000000000→∃r:Nat,f ((v:Int),(i:Int))=some (.inl ((r:Int),((i+1:Nat):Int)))∧r≤v+B)
  (h0: ∀v:Nat,f ((v:Int),(xs.length:Int))=some (.inr (v:Int))): ∃r:Nat,(Option.bind (Option.bind (whileM f F ((k:Int),(0:Int))) fun r15=>some r15) fun o6=>some o6)=some (r:Int)∧r≤k+1048576*B:=by
 have gen: ∀(j i v F:Nat),i+j=xs.length→j<F→v+j*B≤9000000000000000000→∃r:Nat,whileM f F ((v:Int),(i:Int))=some (r:Int)∧r≤v+j*B:=by
  intro j
  induction j with
  | zero=>
   intro i v F e hF hv
   obtain⟨F,rfl⟩: ∃G,F=G+1:=⟨F-1,by omega⟩
   obtain rfl:i=xs.length:=by omega
   exact⟨v,by rw [whileM,h0];rfl,by omega⟩
  | succ j ih=>
   intro i v F e hF hv
   obtain⟨F,rfl⟩: ∃G,F=G+1:=⟨F-1,by omega⟩
   rw [Nat.add_mul,Nat.one_mul] at hv
   generalize hc:j*B=c at hv ih
   have hi:i<xs.length:=by omega
   obtain⟨r,hr,hle⟩:=h i v xs[i] (List.getElem?_eq_getElem hi) hi (by omega)
   obtain⟨q,hq,hql⟩:=ih (i+1) r F (by omega) (by omega) (by omega)
   refine⟨q,?_,?_⟩
   ·rw [whileM,hr];exact hq
   ·rw [Nat.add_mul,Nat.one_mul,hc];omega
 have hm:=Nat.mul_le_mul_right B hl
 obtain⟨r,hr,hle⟩:=gen xs.length 0 k F (by omega) (by omega) (by omega)
 refine⟨r,?_,by omega⟩
 rw [show (0:Int)=((0:Nat):Int) from rfl,hr];rfl
theorem mkTextsD (F:Nat)(xs:List Str)(k:Nat)(hF:2000000<F)(hl:xs.length≤1048576)(hk:k+1048576≤9000000000000000000): ∃r:Nat,M.laws_markStringS F xs (k:Int)=some (r:Int)∧r≤k+1048576:=by
 unfold M.laws_markStringS
 rw [show k+1048576=k+1048576*1 by omega]
 refine mk_loopD 1 F hl hF k (by omega) (fun i v x hx hi hv=>?_) fun v=>?_
 ·obtain⟨s,hs⟩:=markText_ok F (v:Int) (by omega) (by omega)
  refine⟨v+1,?_,by omega⟩
  have hg:getI xs (i:Int)=some x:=by rw [getI_nat',hx]
  dsimp only
  rw [decide_eq_true (by omega),cond_true,hs,Option.bind_some,hg,Option.bind_some,w64_succ' (i:=v) (by omega),w64_succ' (i:=i) (by omega)]
 ·dsimp only
  rw [decide_eq_false (by omega)];rfl
theorem str_lensD {K:KMap}{a:Option Addr}{n c:Nat}{xs:List Str}(h:SliceAt tStr K a n c xs):xs.length≤maxLen∧∀s∈xs,s.length≤maxLen:=
 ⟨h.max,fun s hs=>by
  obtain⟨i,hi⟩:=List.getElem?_of_mem hs
  have hlt:=(List.getElem?_eq_some_iff.1 hi).1
  obtain⟨e1,e2,_,e4⟩:=h
  obtain⟨b,o,_,h5⟩:=e4 (by omega)
  obtain⟨u,hu,_⟩:=h5 i s hi
  exact hu.2⟩
end Go.Fk
