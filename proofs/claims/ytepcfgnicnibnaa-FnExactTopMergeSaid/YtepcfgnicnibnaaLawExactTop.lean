/-
  The program's TopMerge is the reference's, for all lists, and neither keeps nor hands back what is the caller's. Of no program.
-/
import Derived.Test.YtepcfgnicnibnaaLawTopS
set_option linter.unusedVariables false
namespace Go.Fk
open Go
def Zz (S:Prop)(left:Int)(o:Option Int):Prop:=∃r,o=some r∧(0≤r→r≤left∧S)
theorem zz_loop {α:Type}{xs:List α}{S:α→Prop}{f:Int×Int→Option ((Int×Int)⊕(Int⊕Int))}{left:Int}(h1:left≤1048576)
  (h: ∀(i:Nat) x (l:Int),i<xs.length→xs[i]? =some x→0≤l→l≤1048576→f (l,(i:Int))=some (.inr (.inr (-1)))∨∃r,0≤r∧r≤l∧S x∧f (l,(i:Int))=some (.inl (r,((i+1:Nat):Int))))
  (hE: ∀l,f (l,(xs.length:Int))=some (.inr (.inl l))): ∀(k i:Nat) (l:Int) (F:Nat),i+k=xs.length→k<F→0≤l→l≤left→(∀x∈xs.take i,S x)→∃t,whileM f F (l,(i:Int))=some t∧(t= .inr (-1)∨∃r,t= .inl r∧0≤r∧r≤left∧∀x∈xs,S x)
 | 0,i,l,F,e,hF,l0,l1,hS=>by
  obtain⟨F,rfl⟩: ∃G,F=G+1:=⟨F-1,by omega⟩
  obtain rfl:i=xs.length:=by omega
  rw [whileM,hE]
  rw [List.take_of_length_le (Nat.le_refl _)] at hS
  exact⟨.inl l,rfl,.inr ⟨l,rfl,l0,l1,hS⟩⟩
 | k+1,i,l,F,e,hF,l0,l1,hS=>by
  obtain⟨F,rfl⟩: ∃G,F=G+1:=⟨F-1,by omega⟩
  have hi:i<xs.length:=by omega
  rw [whileM]
  rcases h i xs[i] l hi (List.getElem?_eq_getElem hi) l0 (by omega) with h' | ⟨r,r0,r1,hs,h'⟩
  ·rw [h'];exact⟨_,rfl,.inl rfl⟩
  ·rw [h',Option.bind_some]
   refine zz_loop h1 h hE k (i+1) r F (by omega) (by omega) r0 (by omega) fun x hx=>?_
   rw [List.take_add_one,List.getElem?_eq_getElem hi] at hx
   rcases List.mem_append.1 hx with hx | hx
   ·exact hS x hx
   ·simp at hx;subst hx;exact hs
theorem zz_gen {α:Type}{xs:List α}(S:α→Prop){f:Int×Int→Option ((Int×Int)⊕(Int⊕Int))}{left:Int}(F:Nat)(hF:1048577<F)(h0:0≤left)(h1:left≤1048576)(hl:xs.length≤maxLen)
  (h: ∀(i:Nat) x (l:Int),i<xs.length→xs.length≤1048576→xs[i]? =some x→0≤l→l≤1048576→f (l,(i:Int))=some (.inr (.inr (-1)))∨∃r,0≤r∧r≤l∧S x∧f (l,(i:Int))=some (.inl (r,((i+1:Nat):Int))))
  (hE: ∀l,f (l,(xs.length:Int))=some (.inr (.inl l))):
  Zz (xs.length≤1048576∧∀x∈xs,S x) left (cond (decide ((w64 (left-(xs.length:Int)))<(0:Int))) (some (-1:Int)) (Option.bind ((Option.bind (whileM f F ((w64 (left-(xs.length:Int))),(0:Int))) fun r18=>(r18.elim (fun t46=>(some (.inl t46))) (fun t47=>(some (.inr t47))))):Option ((Int)⊕(Int))) fun o8=>o8.elim (fun s11=>(some s11)) (fun t48=>(some t48)))):=by
 have hm:maxLen≤9223372036854775807:=by decide
 have e1:w64 (left-(xs.length:Int))=left-(xs.length:Int):=w64_of ⟨by omega,by omega⟩
 rw [e1]
 by_cases hneg:left-(xs.length:Int)<0
 ·rw [decide_eq_true hneg]
  exact⟨-1,rfl,fun h=>by omega⟩
 ·rw [decide_eq_false hneg,cond_false]
  obtain⟨t,ht,hp⟩:=zz_loop (S:=S) (xs:=xs) (f:=f) (left:=left) h1 (fun i x l hi hx l0 l1=>h i x l hi (by omega) hx l0 l1) hE xs.length 0 (left-(xs.length:Int)) F (by omega) (by omega) (by omega) (by omega) (by simp)
  rw [show (0:Int)=((0:Nat):Int) from rfl,ht]
  rcases hp with rfl | ⟨r,rfl,r0,r1,hS⟩
  ·exact⟨-1,rfl,fun h=>by omega⟩
  ·exact⟨r,rfl,fun _=>⟨r1,by omega,hS⟩⟩
theorem zz_elem {S:Prop}{l:Int}{o:Option Int}{j:Int}(h:Zz S l o):(Option.bind o fun r=>(cond (decide (r<(0:Int))) (some (.inr (.inr (-1:Int)))) (some (.inl (r,j)))):Option ((Int×Int)⊕(Int⊕Int)))=some (.inr (.inr (-1)))∨
  ∃r,0≤r∧r≤l∧S∧(Option.bind o fun r=>(cond (decide (r<(0:Int))) (some (.inr (.inr (-1:Int)))) (some (.inl (r,j)))):Option ((Int×Int)⊕(Int⊕Int)))=some (.inl (r,j)):=by
 obtain⟨r,rfl,hr⟩:=h
 by_cases h0:r<0
 ·exact .inl (by rw [Option.bind_some,decide_eq_true h0];rfl)
 ·obtain⟨a,b⟩:=hr (by omega)
  exact .inr ⟨r,by omega,a,b,by rw [Option.bind_some,decide_eq_false h0];rfl⟩
theorem zz_str {left:Int}(h0:0≤left)(h1:left≤1048576){n:Nat}(hn:n≤maxLen):Zz (n≤1048576) left (cond (decide ((w64 (left-(n:Int)))<(0:Int))) (some (-1:Int)) (some (w64 (left-(n:Int))))):=by
 have hm:maxLen≤9223372036854775807:=by decide
 rw [w64_of (n:=left-(n:Int)) ⟨by omega,by omega⟩]
 by_cases hneg:left-(n:Int)<0
 ·rw [decide_eq_true hneg];exact⟨-1,rfl,fun h=>by omega⟩
 ·rw [decide_eq_false hneg];exact⟨_,rfl,fun _=>⟨by omega,by omega⟩⟩
theorem zz_to {α:Type}{xs:List α}{f:Int×List α→Option ((Int×List α)⊕List α)}(h: ∀(i:Nat) x (s:List α),xs[i]? =some x→i<s.length→f ((i:Int),s)=some (.inl (((i+1:Nat):Int),s.set i x)))
  (hE: ∀s,f ((xs.length:Int),s)=some (.inr s)): ∀(k i F:Nat) (s:List α),i+k=xs.length→k<F→s.length=xs.length→s.take i=xs.take i→whileM f F ((i:Int),s)=some xs
 | 0,i,F,s,e,hF,hl,hs=>by
  obtain⟨F,rfl⟩: ∃G,F=G+1:=⟨F-1,by omega⟩
  obtain rfl:i=xs.length:=by omega
  rw [whileM,hE]
  rw [List.take_of_length_le (by omega),List.take_of_length_le (Nat.le_refl _)] at hs
  rw [hs];rfl
 | k+1,i,F,s,e,hF,hl,hs=>by
  obtain⟨F,rfl⟩: ∃G,F=G+1:=⟨F-1,by omega⟩
  have hi:i<xs.length:=by omega
  rw [whileM,h i xs[i] s (List.getElem?_eq_getElem hi) (by omega),Option.bind_some]
  refine zz_to h hE k (i+1) F _ (by omega) (by omega) (by rw [List.length_set];exact hl) ?_
  rw [List.take_add_one,List.take_add_one,List.getElem?_set_self (by omega),List.getElem?_eq_getElem hi,List.take_set_of_le (Nat.le_refl _),hs]
theorem zz_togen {α:Type}{xs:List α}{z:α}{b:Nat}{f:Int×List α→Option ((Int×List α)⊕List α)}(F:Nat)(hb:b≤100)(hF:1048577<F)(hl:xs.length≤1048576)(h: ∀(i:Nat) x (s:List α),xs[i]? =some x→i<s.length→f ((i:Int),s)=some (.inl (((i+1:Nat):Int),s.set i x)))
  (hE: ∀s,f ((xs.length:Int),s)=some (.inr s)):(Option.bind (makeL b (xs.length:Int) z) fun x5=>(Option.bind ((Option.bind (whileM f F ((0:Int),x5)) fun r27=>(some r27)):Option (List α)) fun o16=>(some o16)))=some xs:=by
 have hm:makeL b (xs.length:Int) z=some (List.replicate xs.length z):=by
  unfold makeL
  rw [if_pos ⟨by omega,by
   have h1:=Nat.mul_le_mul hl hb
   have h2:((xs.length*b:Nat):Int)≤((1048576*100:Nat):Int):=Int.ofNat_le.2 h1
   rw [Int.natCast_mul] at h2
   omega⟩,Int.toNat_natCast]
 rw [hm,Option.bind_some,show (0:Int)=((0:Nat):Int) from rfl,zz_to h hE xs.length 0 F _ (by omega) (by omega) (by simp) (by simp)];rfl
theorem implHitsX (F:Nat)(l:List GHit)(hl:l.length≤1048576):M.impl_HitsOk F l=some (hitsS l):=by
 unfold M.impl_HitsOk hitsS
 have hz:l.length=l.zipIdx.length:=by simp
 rw [all_from (p:=hitP l) (xs:=l.zipIdx) (fun i q hq=>?_) l.length 0 (by omega),List.drop_zero]
 ·cases l.zipIdx.all (hitP l)<;>rfl
 ·obtain⟨hx,hi⟩:=zipAt hq
  have hlt:=(List.getElem?_eq_some_iff.1 hx).1
  rw [getI_nat',hx,Option.bind_some,withinS,Option.bind_some]
  unfold hitP
  rw [hi]
  cases (decide (1≤q.1.Doc)&&decide (q.1.Doc≤9999)) with
  | false=>rfl
  | true=>
   rw [Bool.not_true,cond_false]
   cases decide (q.1.Points<1) with
   | true=>rfl
   | false=>
    rw [cond_false,subL_take (by omega),Option.bind_some,hasDoc_ok,Option.bind_some]
    cases docIn (l.take i) q.1.Doc with
    | true=>rfl
    | false=>
     rw [cond_false]
     by_cases h0:i=0
     ·subst h0;rfl
     ·rw [decide_eq_true (show (0:Int)<(i:Int) by omega),cond_true,w64_pred (by omega) (by omega),getI_nat',List.getElem?_eq_getElem (show i-1<l.length by omega),Option.bind_some,ord_ok,Option.bind_some,ordH_nonneg,decide_eq_false h0]
      simp only [Option.elim_some,Bool.false_or,Option.bind_some]
      cases lessH l[i-1] q.1<;>rfl
theorem specHitsX (F:Nat)(l:List GHit)(hl:l.length≤1048576)(hF:2000000<F):M.spec_l13Ok F l=some (hitsS l):=by
 unfold M.spec_l13Ok hitsS
 have hz:l.length=l.zipIdx.length:=by simp
 have hall: ∀(f:Int→Option (Int⊕(Unit⊕Bool))),(∀(i:Nat) q,l.zipIdx[i]? =some q→f (i:Int)=some (if hitP l q then .inl ((i+1:Nat):Int) else .inr (.inr false)))→f (l.zipIdx.length:Int)=some (.inr (.inl ()))→whileM f F (0:Int)=some (if l.zipIdx.all (hitP l) then .inl () else .inr false):=fun f h h0=>by
  have:=all_while h h0 l.length 0 F (by omega) (by omega)
  rwa [List.drop_zero] at this
 rw [hall _ (fun i q hq=>?_) ?_]
 ·cases l.zipIdx.all (hitP l)<;>rfl
 ·rw [←hz,decide_eq_false (by omega)];rfl
 ·obtain⟨hx,hi⟩:=zipAt hq
  have hlt:=(List.getElem?_eq_some_iff.1 hx).1
  rw [decide_eq_true (by omega),cond_true,getI_nat',hx,Option.bind_some,inS,Option.bind_some,Option.bind_some,w64_succ' (by omega)]
  unfold hitP
  rw [hi]
  cases (decide (1≤q.1.Doc)&&decide (q.1.Doc≤9999)) with
  | false=>rfl
  | true=>
   rw [Bool.not_true,cond_false]
   cases decide (q.1.Points<1) with
   | true=>rfl
   | false=>
    rw [cond_false]
    have hin: ∀(f:Int→Option (Int⊕(Unit⊕Bool))),(∀(k:Nat) y,(l.take i)[k]? =some y→f (k:Int)=some (if !(y.Doc==q.1.Doc) then .inl ((k+1:Nat):Int) else .inr (.inr false)))→f ((l.take i).length:Int)=some (.inr (.inl ()))→whileM f F (0:Int)=some (if (l.take i).all (fun y=> !(y.Doc==q.1.Doc)) then .inl () else .inr false):=fun f h h0=>by
     have:=all_while h h0 (l.take i).length 0 F (by omega) (by simp;omega)
     rwa [List.drop_zero] at this
    have htl:(l.take i).length=i:=by simp;omega
    have hdoc:(l.take i).all (fun y=> !(y.Doc==q.1.Doc))= !docIn (l.take i) q.1.Doc:=by
     unfold docIn
     rw [List.not_any_eq_all_not]
    have fin: ∀b:Bool,(some b:Option Bool).bind (fun o27=>(cond o27 (some (.inr (.inr false))) (Option.bind ((Option.bind (whileM (σ:=Int) (τ:=(Unit)⊕(Bool)) (fun (s125:Int)=>(cond (decide (s125<(i:Int))) (Option.bind (getI l s125) fun x139=>(Option.bind (some q.1) fun x150=>(cond (x139.Doc==x150.Doc) (some (.inr (.inr false))) (some (.inl (w64 (s125+(1:Int)))))))) (some (.inr (.inl ()))))) F (0:Int)) fun r126=>(r126.elim (fun t170=>(some (.inl ()))) (fun t171=>(some (.inr t171))))):Option ((Unit)⊕(Bool))) fun o117=>o117.elim (fun s120=>(some (.inl ((i+1:Nat):Int)))) (fun t172=>(some (.inr (.inr t172))))):Option (Int⊕(Unit⊕Bool))))=
      some (if (!docIn (l.take i) q.1.Doc&& !b) then .inl ((i+1:Nat):Int) else .inr (.inr false)):=fun b=>by
     cases b with
     | true=>simp
     | false=>
      rw [Option.bind_some,cond_false,hin _ (fun k y hy=>?_) ?_,hdoc]
      ·cases docIn (l.take i) q.1.Doc<;>rfl
      ·rw [htl,decide_eq_false (by omega)];rfl
      ·have hk:=(List.getElem?_eq_some_iff.1 hy).1
       rw [htl] at hk
       rw [List.getElem?_take,if_pos hk] at hy
       rw [decide_eq_true (by omega),cond_true,getI_nat',hy,Option.bind_some,Option.bind_some,w64_succ' (by omega)]
       cases y.Doc==q.1.Doc<;>rfl
    by_cases h0:i=0
    ·subst h0
     rw [decide_eq_false (show ¬(0:Int)<((0:Nat):Int) by omega),cond_false]
     have:=fin false
     rw [this]
     simp
    ·rw [decide_eq_true (show (0:Int)<(i:Int) by omega),cond_true,w64_pred (by omega) (by omega),getI_nat',List.getElem?_eq_getElem (show i-1<l.length by omega),Option.bind_some,Option.bind_some,specLess,Option.bind_some,fin,decide_eq_false h0]
     simp
theorem mergeL_len: ∀{lists:List (List GHit)} {acc all:List GHit},mergeL lists acc=some all→all.length≤acc.length+16*lists.length
 | [],acc,all,h=>by
  simp only [mergeL,Option.some.injEq] at h
  subst h;simp
 | l::ls,acc,all,h=>by
  rw [mergeL] at h
  split at h
  ·rename_i hc
   have hli:=((hits_iff _).1 (Bool.and_eq_true_iff.1 hc).1).few
   have:=mergeL_len h
   rw [List.length_append] at this
   rw [List.length_cons];omega
  ·cases h
def topX (lists:List (List GHit))(most:Int):List GHit:=
 if (decide (1≤most)&&decide (most≤16))&&decide ((lists.length:Int)≤4) then (match mergeL lists [] with | some all=>(sortH all).take most.toNat | none=>[]) else []
theorem merge_fromX {lists:List (List GHit)}{f:Nat→List GHit→Option (List GHit⊕List GHit)}
  (h: ∀i l acc,lists[i]? =some l→acc.length≤16*i→f i acc=some (if hitsS l&&apartS acc l then .inl (acc++l) else .inr [])):
  ∀k i acc,i+k=lists.length→acc.length≤16*i→forFrom f k i acc=some (match mergeL (lists.drop i) acc with | some a=>.inl a | none=>.inr [])
 | 0,i,acc,e,_=>by rw [List.drop_eq_nil_of_le (by omega)];rfl
 | k+1,i,acc,e,ha=>by
  have hi:i<lists.length:=by omega
  rw [forFrom,h i lists[i] acc (List.getElem?_eq_getElem hi) ha,List.drop_eq_getElem_cons hi,mergeL]
  cases hc:hitsS lists[i]&&apartS acc lists[i] with
  | false=>simp
  | true=>
   have hli:=((hits_iff _).1 (Bool.and_eq_true_iff.1 hc).1).few
   simp only [if_true,Option.bind_some,Sum.elim_inl]
   exact merge_fromX h k (i+1) (acc++lists[i]) (by omega) (by simp only [List.length_append];omega)
theorem implTopX (F:Nat)(lists:List (List GHit))(most:Int)(hl: ∀l∈lists,l.length≤1048576):M.impl_TopMerge F lists most=some (topX lists most):=by
 unfold M.impl_TopMerge topX
 rw [dec_gt (lists.length:Int) 4]
 cases h4:decide ((lists.length:Int)≤4) with
 | false=>rw [Bool.not_false,cond_true,Option.bind_some,Bool.and_false];rfl
 | true=>
  rw [Bool.not_true,cond_false,withinS,Option.bind_some,Option.bind_some]
  cases hm1:(decide (1≤most)&&decide (most≤16)) with
  | false=>rfl
  | true=>
   have h4':=of_decide_eq_true h4
   simp only [Bool.and_eq_true,decide_eq_true_eq] at hm1
   obtain⟨m,rfl⟩: ∃m:Nat,most=(m:Int):=⟨most.toNat,by omega⟩
   rw [Int.toNat_natCast]
   rw [Bool.not_true,cond_false,merge_fromX (lists:=lists) (fun i l acc hx ha=>?_) lists.length 0 [] (by omega) (by simp),List.drop_zero]
   ·cases hm:mergeL lists [] with
    | none=>rfl
    | some all=>
     obtain⟨he,hp,_⟩:=mergeL_spec hm List.Pairwise.nil (by simp)
     have hal:=mergeL_len hm
     rw [List.length_nil] at hal
     simp only [Option.bind_some,Sum.elim_inl]
     rw [first_ok F all m (nodup_docs hp) (by omega)];rfl
   ·have hli:=hl l (List.mem_of_getElem? hx)
    have hi:=(List.getElem?_eq_some_iff.1 hx).1
    rw [getI_nat',hx,Option.bind_some,implHitsX F l (by omega),Option.bind_some]
    cases hitsS l with
    | false=>rfl
    | true=>
     rw [Bool.not_true,cond_false]
     rw [all_from' (p:=fun h=> !docIn acc h.Doc) (xs:=l) (e:=([]:List GHit)) (fun k x hk=>?_) l.length 0 (by omega),List.drop_zero]
     ·unfold apartS
      cases l.all fun h=> !docIn acc h.Doc with
      | false=>rfl
      | true=>
       simp only [if_true,Option.bind_some,Sum.elim_inl,Bool.and_self]
       rw [catLok (by omega)];rfl
     ·rw [getI_nat',hk,Option.bind_some,hasDoc_ok,Option.bind_some]
      cases docIn acc x.Doc<;>rfl
theorem specMerge_fromX {m:Nat}{lists:List (List GHit)}{f:List GHit×List Int×Int→Option ((List GHit×List Int×Int)⊕(List GHit⊕List GHit))}
  (h: ∀i l acc,lists[i]? =some l→acc.length≤16*i→f (stS m acc i)=some (if hitsS l&&apartS acc l then .inl (stS m (acc++l) (i+1)) else .inr (.inr [])))
  (h0: ∀acc,f (stS m acc lists.length)=some (.inr (.inl ((sortH acc).take m)))):
  ∀k i acc F,i+k=lists.length→acc.length≤16*i→k<F→whileM f F (stS m acc i)=some (match mergeL (lists.drop i) acc with | some a=>.inl ((sortH a).take m) | none=>.inr [])
 | 0,i,acc,F,e,_,hF=>by
  obtain⟨F,rfl⟩: ∃G,F=G+1:=⟨F-1,by omega⟩
  rw [whileM,show i=lists.length by omega,h0,List.drop_eq_nil_of_le (by omega)];rfl
 | k+1,i,acc,F,e,ha,hF=>by
  obtain⟨F,rfl⟩: ∃G,F=G+1:=⟨F-1,by omega⟩
  have hi:i<lists.length:=by omega
  rw [whileM,h i lists[i] acc (List.getElem?_eq_getElem hi) ha,List.drop_eq_getElem_cons hi,mergeL]
  cases hc:hitsS lists[i]&&apartS acc lists[i] with
  | false=>simp
  | true=>
   have hli:=((hits_iff _).1 (Bool.and_eq_true_iff.1 hc).1).few
   simp only [if_true,Option.bind_some,Sum.elim_inl]
   exact specMerge_fromX h h0 k (i+1) (acc++lists[i]) F (by omega) (by simp only [List.length_append];omega) (by omega)
theorem specTopX (F:Nat)(lists:List (List GHit))(most:Int)(hl: ∀l∈lists,l.length≤1048576)(hF:2000000<F):M.spec_TopMerge F lists most=some (topX lists most):=by
 unfold M.spec_TopMerge topX
 rw [inS,Option.bind_some]
 cases hm1:(decide (1≤most)&&decide (most≤16)) with
 | false=>rfl
 | true=>
  rw [Bool.not_true,cond_false,dec_gt (lists.length:Int) 4,Option.bind_some]
  cases h4:decide ((lists.length:Int)≤4) with
  | false=>rfl
  | true=>
   have h4':=of_decide_eq_true h4
   simp only [Bool.and_eq_true,decide_eq_true_eq] at hm1
   obtain⟨m,rfl⟩: ∃m:Nat,most=(m:Int):=⟨most.toNat,by omega⟩
   rw [Int.toNat_natCast,Bool.not_true,cond_false]
   have hw: ∀(f:List GHit×List Int×Int→Option ((List GHit×List Int×Int)⊕(List GHit⊕List GHit))),(∀i l acc,lists[i]? =some l→acc.length≤16*i→f (stS m acc i)=some (if hitsS l&&apartS acc l then .inl (stS m (acc++l) (i+1)) else .inr (.inr [])))→
     (∀acc,f (stS m acc lists.length)=some (.inr (.inl ((sortH acc).take m))))→whileM f F (([]:List GHit),([]:List Int),(0:Int))=some (match mergeL lists [] with | some a=>.inl ((sortH a).take m) | none=>.inr []):=fun f h h0=>by
    have:=specMerge_fromX h h0 lists.length 0 [] F (by omega) (by simp) (by omega)
    rw [List.drop_zero] at this
    have e:stS m [] 0=(([]:List GHit),([]:List Int),(0:Int)):=by simp [stS,sortH]
    rwa [e] at this
   rw [hw _ (fun i l acc hx ha=>?_) (fun acc=>?_)]
   ·cases mergeL lists []<;>rfl
   ·have hli:=hl l (List.mem_of_getElem? hx)
    have hi:=(List.getElem?_eq_some_iff.1 hx).1
    show cond (decide ((i:Int)<(lists.length:Int))) (Option.bind (getI lists (i:Int)) _) _=_
    rw [decide_eq_true (by omega),cond_true,getI_nat',hx,Option.bind_some,specHitsX F l (by omega) hF,Option.bind_some]
    cases hh:hitsS l with
    | false=>rfl
    | true=>
     have hd:=((hits_iff l).1 hh).docs
     have hf16:=((hits_iff l).1 hh).few
     rw [Bool.not_true,cond_false]
     have hin: ∀(f:List GHit×List Int×Int→Option ((List GHit×List Int×Int)⊕((List GHit×List Int)⊕List GHit))),(∀k x,l[k]? =some x→f (stS m (acc++l.take k) k)=some (if !docIn acc x.Doc then .inl (stS m (acc++l.take (k+1)) (k+1)) else .inr (.inr [])))→
       f (stS m (acc++l.take l.length) l.length)=some (.inr (.inl ((sortH (acc++l)).take m,(acc++l).map (·.Doc))))→whileM f F ((stS m acc i).1,(stS m acc i).2.1,(0:Int))=some (if apartS acc l then .inl ((sortH (acc++l)).take m,(acc++l).map (·.Doc)) else .inr []):=fun f h h0=>by
      have:=st_while (st:=fun k=>stS m (acc++l.take k) k) h h0 l.length 0 F (by omega) (by omega)
      rw [List.drop_zero,List.take_zero,List.append_nil] at this
      exact this
     rw [hin _ (fun k x hk=>?_) ?_]
     ·cases apartS acc l with
      | false=>rfl
      | true=>
       simp only [if_true,Option.bind_some,Sum.elim_inl,Bool.and_self]
       rw [show (stS m acc i).2.2=(i:Int) from rfl,w64_succ' (by omega)];rfl
     ·show Option.bind (getI lists (i:Int)) _=_
      rw [getI_nat',hx,Option.bind_some]
      show cond (decide ((l.length:Int)<(l.length:Int))) _ _=_
      rw [decide_eq_false (by omega),cond_false,List.take_length];rfl
     ·have hkl:=(List.getElem?_eq_some_iff.1 hk).1
      have hkv:=(List.getElem?_eq_some_iff.1 hk).2
      have htl:(acc++l.take k).length≤1000:=by simp;omega
      have hgl:getI lists (stS m acc i).2.2=some l:=by
       show getI lists (i:Int)=_
       rw [getI_nat',hx]
      have hgk:getI l (stS m (acc++l.take k) k).2.2=some x:=by
       show getI l (k:Int)=_
       rw [getI_nat',hk]
      have hlt:decide ((stS m (acc++l.take k) k).2.2<(l.length:Int))=true:=decide_eq_true (by show (k:Int)<_;omega)
      simp only [hgl,hgk,Option.bind_some,hlt,cond_true]
      show Option.bind (M.spec_l8Has F ((acc++l.take k).map (·.Doc)) x.Doc) _=_
      have hno:docIn (l.take k) x.Doc=false:=by
       unfold docIn
       rw [List.any_eq_false]
       intro y hy
       obtain⟨j,hj⟩:=List.mem_iff_getElem?.1 hy
       have hj1:=(List.getElem?_eq_some_iff.1 hj).1
       rw [List.length_take] at hj1
       rw [List.getElem?_take,if_pos (by omega)] at hj
       have hj2:=(List.getElem?_eq_some_iff.1 hj).2
       have:=List.pairwise_iff_getElem.1 hd j k (by omega) hkl (by omega)
       rw [hj2,hkv] at this
       simpa using this
      rw [has_ok F _ _ (by omega) (by omega),Option.bind_some,docIn_append,hno,Bool.or_false]
      cases docIn acc x.Doc with
      | true=>rfl
      | false=>
       rw [cond_false]
       show Option.bind (catL 8 ((acc++l.take k).map (·.Doc)) [x.Doc]) _=_
       rw [catLok (by simp only [List.length_map,List.length_singleton];omega),Option.bind_some]
       show Option.bind (M.spec_l13Push F ((sortH (acc++l.take k)).take m) x (m:Int)) _=_
       rw [push_ok F _ x m (by have:=sortH_len (acc++l.take k);simp only [List.length_take];omega) (by omega),take_insH,←sortH_snoc,Option.bind_some,show (stS m (acc++l.take k) k).2.2=(k:Int) from rfl,w64_succ' (by omega),List.append_assoc]
       have ek:l.take k++[x]=l.take (k+1):=by rw [←hkv,List.take_succ_eq_append_getElem hkl]
       rw [ek]
       simp only [Bool.not_false,if_true]
       unfold stS
       rw [←ek]
       simp
   ·show cond (decide ((lists.length:Int)<(lists.length:Int))) _ _=_
    rw [decide_eq_false (by omega)];rfl
theorem topX_len (lists:List (List GHit))(most:Int):(topX lists most).length≤16:=by
 unfold topX
 split
 ·rename_i h
  simp only [Bool.and_eq_true,decide_eq_true_eq] at h
  split
  ·rw [List.length_take];omega
  ·simp
 ·simp
theorem szHits (F:Nat)(xs:List GHit)(left:Int)(h0:0≤left)(h1:left≤1048576)(hl:xs.length≤maxLen):Zz (xs.length≤1048576) left (M.laws_szHitS F xs left):=zz_str h0 h1 hl
theorem szHitss (F:Nat)(xs:List (List GHit))(left:Int)(h0:0≤left)(h1:left≤1048576)(hF:2000000<F)(hl:xs.length≤maxLen∧∀s∈xs,s.length≤maxLen):Zz (xs.length≤1048576∧∀s∈xs,s.length≤1048576) left (M.laws_szHitSS F xs left):=by
 unfold M.laws_szHitSS
 refine zz_gen (fun s:List GHit=>s.length≤1048576) F (by omega) h0 h1 hl.1 (fun i x l hi hxl hx l0 l1=>?_) fun l=>?_
 ·rw [decide_eq_true (by omega),cond_true,getI_nat',hx,Option.bind_some,w64_succ' (by omega)]
  exact zz_elem (szHits F x l l0 l1 (hl.2 x (List.mem_of_getElem? hx)))
 ·rw [decide_eq_false (by omega)];rfl
theorem toHits (F:Nat)(xs:List GHit)(hF:2000000<F)(hl:xs.length≤1048576):M.laws_toHitS F xs=some xs:=by
 unfold M.laws_toHitS
 refine zz_togen F (by omega) (by omega) hl (fun i x s hx hi=>?_) fun s=>?_
 ·have hix:=(List.getElem?_eq_some_iff.1 hx).1
  have hle:=hl
  rw [decide_eq_true (by omega),cond_true,getI_nat',hx,Option.bind_some,M.laws_toHit,Option.bind_some,getI_nat',List.getElem?_eq_getElem hi,Option.bind_some,w64_succ' (by omega),Int.toNat_natCast]
 ·rw [decide_eq_false (by omega)];rfl
theorem toHitss (F:Nat)(xs:List (List GHit))(hF:2000000<F)(hl:xs.length≤1048576∧∀s∈xs,s.length≤1048576):M.laws_toHitSS F xs=some xs:=by
 unfold M.laws_toHitSS
 refine zz_togen F (by omega) (by omega) hl.1 (fun i x s hx hi=>?_) fun s=>?_
 ·have hix:=(List.getElem?_eq_some_iff.1 hx).1
  have hle:=hl.1
  rw [decide_eq_true (by omega),cond_true,getI_nat',hx,Option.bind_some,toHits F x hF (hl.2 x (List.mem_of_getElem? hx)),Option.bind_some,getI_nat',List.getElem?_eq_getElem hi,Option.bind_some,w64_succ' (by omega),Int.toNat_natCast]
 ·rw [decide_eq_false (by omega)];rfl
theorem eqHit1 (F:Nat)(x:GHit):M.laws_eqHit F x x=some true:=by
 unfold M.laws_eqHit
 rw [beq_self_eq_true,beq_self_eq_true];rfl
theorem eqHits (F:Nat)(xs:List GHit)(hF:2000000<F)(hl:xs.length≤1048576):M.laws_eqHitS F xs xs=some true:=by
 have hle:=hl
 unfold M.laws_eqHitS
 rw [beq_self_eq_true,Bool.not_true,cond_false,clean0' (n:=xs.length) F (by omega) (fun i hi=>?_) ?_]
 ·rfl
 ·rw [decide_eq_false (by omega)];rfl
 ·rw [decide_eq_true (by omega),cond_true,getI_at hi,Option.bind_some,Option.bind_some,eqHit1,Option.bind_some,w64_succ' (by omega)]
  rfl
theorem eqHitss (F:Nat)(xs:List (List GHit))(hF:2000000<F)(hl:xs.length≤1048576∧∀s∈xs,s.length≤1048576):M.laws_eqHitSS F xs xs=some true:=by
 have hle:=hl.1
 unfold M.laws_eqHitSS
 rw [beq_self_eq_true,Bool.not_true,cond_false,clean0' (n:=xs.length) F (by omega) (fun i hi=>?_) ?_]
 ·rfl
 ·rw [decide_eq_false (by omega)];rfl
 ·rw [decide_eq_true (by omega),cond_true,getI_at hi,Option.bind_some,Option.bind_some,eqHits F _ hF (hl.2 _ (List.getElem_mem hi)),Option.bind_some,w64_succ' (by omega)]
  rfl
theorem zz_run {σ τ:Type}{n:Nat}{st:Nat→σ}{r:τ}{f:σ→Option (σ⊕τ)}(h: ∀i,i<n→f (st i)=some (.inl (st (i+1))))(h0:f (st n)=some (.inr r)): ∀k i F,i+k=n→k<F→whileM f F (st i)=some r
 | 0,i,F,e,hF=>by
  obtain⟨F,rfl⟩: ∃G,F=G+1:=⟨F-1,by omega⟩
  obtain rfl:i=n:=by omega
  rw [whileM,h0];rfl
 | k+1,i,F,e,hF=>by
  obtain⟨F,rfl⟩: ∃G,F=G+1:=⟨F-1,by omega⟩
  rw [whileM,h i (by omega),Option.bind_some]
  exact zz_run h h0 k (i+1) F (by omega) (by omega)
theorem kap_nat (k:Nat)(hk:k≤2000000000000000): ∀n,n≤2000000→kapGHit (k:Int) n=((k+2*n:Nat):Int)
 | 0,_=>by rw [kapGHit];congr 1
 | n+1,h=>by
  rw [kapGHit,kap_nat k hk n (by omega),w64_of (n:=((k+2*n:Nat):Int)+1) ⟨by omega,by omega⟩,w64_of (n:=((k+2*n:Nat):Int)+1+1) ⟨by omega,by omega⟩];omega
theorem markHits (F:Nat)(xs:List GHit)(k:Int)(hF:2000000<F)(hl:xs.length≤1048576):M.laws_markHitS F xs k=some (kapGHit k xs.length):=by
 have hle:=hl
 unfold M.laws_markHitS
 have hw: ∀f:Int×Int→Option ((Int×Int)⊕Int),(∀i,i<xs.length→f (kapGHit k i,(i:Int))=some (.inl (kapGHit k (i+1),((i+1:Nat):Int))))→f (kapGHit k xs.length,(xs.length:Int))=some (.inr (kapGHit k xs.length))→whileM f F (k,(0:Int))=some (kapGHit k xs.length):=fun f h h0=>
  zz_run (st:=fun i=>(kapGHit k i,(i:Int))) h h0 xs.length 0 F (by omega) (by omega)
 rw [hw _ (fun i hi=>?_) ?_]
 ·rfl
 ·dsimp only
  rw [decide_eq_false (by omega)];rfl
 ·dsimp only
  rw [decide_eq_true (by omega),cond_true,getI_at hi,Option.bind_some,Option.bind_some,w64_succ' (by omega),kapGHit]
theorem marks_at {F n i:Nat}{k:Int}(h:i<n):getI (marksGHit F n k) (i:Int)=some ⟨kapGHit k i,w64 (kapGHit k i+1)⟩:=by
 rw [getI_nat']
 unfold marksGHit
 rw [List.getElem?_map,List.getElem?_range h];rfl
theorem heldHits (F n:Nat)(k:Int)(hF:2000000<F)(hl:n≤1048576):M.laws_heldHitS F (marksGHit F n k) k=some (kapGHit k n):=by
 have hn:(marksGHit F n k).length=n:=by unfold marksGHit;simp
 unfold M.laws_heldHitS
 rw [hn]
 have hw: ∀f:Int×Int→Option ((Int×Int)⊕(Int⊕Int)),(∀i,i<n→f (kapGHit k i,(i:Int))=some (.inl (kapGHit k (i+1),((i+1:Nat):Int))))→f (kapGHit k n,(n:Int))=some (.inr (.inl (kapGHit k n)))→whileM f F (k,(0:Int))=some (.inl (kapGHit k n)):=fun f h h0=>
  zz_run (st:=fun i=>(kapGHit k i,(i:Int))) h h0 n 0 F (by omega) (by omega)
 rw [hw _ (fun i hi=>?_) ?_]
 ·rfl
 ·dsimp only
  rw [decide_eq_false (by omega)];rfl
 ·dsimp only
  rw [decide_eq_true (by omega),cond_true,marks_at hi,Option.bind_some]
  dsimp only
  rw [beq_self_eq_true,Bool.not_true,cond_false,Option.bind_some]
  dsimp only
  rw [beq_self_eq_true,Bool.not_true,cond_false,w64_succ' (by omega),kapGHit]
theorem markHitss (F:Nat)(xs:List (List GHit))(hF:2000000<F)(hl:xs.length≤1048576∧∀s∈xs,s.length≤1048576): ∃r,M.laws_markHitSS F xs 1=some r∧0≤r:=by
 obtain⟨h1,h2⟩:=hl
 unfold M.laws_markHitSS
 let f:Nat→Nat:=fun i=>((xs.take i).map fun s=>2*s.length).sum+1
 have hf: ∀i,i≤xs.length→f i≤2097152*i+1:=fun i hi=>by
  have gen: ∀ys:List (List GHit),(∀s∈ys,s.length≤1048576)→(ys.map fun s=>2*s.length).sum≤2097152*ys.length:=by
   intro ys
   induction ys with
   | nil=>intro _;simp
   | cons a ys ih=>
    intro h
    have i1:=ih fun s hs=>h s (by simp [hs])
    have i2:=h a (by simp)
    rw [List.map_cons,List.sum_cons,List.length_cons];omega
  have:=gen (xs.take i) fun s hs=>h2 s (List.mem_of_mem_take hs)
  rw [List.length_take] at this
  show _+1≤_
  omega
 have hs: ∀i,(hi:i<xs.length)→f (i+1)=f i+2*xs[i].length:=fun i hi=>by
  show ((xs.take (i+1)).map fun s=>2*s.length).sum+1=((xs.take i).map fun s=>2*s.length).sum+1+2*xs[i].length
  rw [List.take_succ_eq_append_getElem hi,List.map_append,List.sum_append]
  simp;omega
 have hw: ∀g:Int×Int→Option ((Int×Int)⊕Int),(∀i,(hi:i<xs.length)→g (((f i:Nat):Int),(i:Int))=some (.inl (((f (i+1):Nat):Int),((i+1:Nat):Int))))→g (((f xs.length:Nat):Int),(xs.length:Int))=some (.inr ((f xs.length:Nat):Int))→whileM g F ((1:Int),(0:Int))=some ((f xs.length:Nat):Int):=fun g h h0=>
  zz_run (st:=fun i=>(((f i:Nat):Int),(i:Int))) h h0 xs.length 0 F (by omega) (by omega)
 refine⟨((f xs.length:Nat):Int),?_,by omega⟩
 rw [hw _ (fun i hi=>?_) ?_]
 ·rfl
 ·dsimp only
  rw [decide_eq_false (by omega)];rfl
 ·have hfi:=hf i (by omega)
  have hx:=h2 _ (List.getElem_mem hi)
  dsimp only
  rw [decide_eq_true (by omega),cond_true,getI_at hi,Option.bind_some,markHits F _ _ hF hx,Option.bind_some,w64_succ' (by omega),kap_nat (f i) (by omega) _ (by omega),hs i hi]
theorem hitss_lens {K:KMap}{a:Option Addr}{n c:Nat}{xs:List (List GHit)}(h:SliceAt (tSlice tGHit) K a n c xs):xs.length≤maxLen∧∀s∈xs,s.length≤maxLen:=
 ⟨h.max,fun s hs=>by
  obtain⟨i,hi⟩:=List.getElem?_of_mem hs
  have hlt:=(List.getElem?_eq_some_iff.1 hi).1
  obtain⟨e1,e2,_,e4⟩:=h
  obtain⟨b,o,_,h5⟩:=e4 (by omega)
  obtain⟨u,⟨a2,n2,c2,_,hs2⟩,_⟩:=h5 i s hi
  exact hs2.max⟩
theorem law_exactTopMerge (q0:List (List GHit))(q1:Int)(hl:q0.length≤maxLen∧∀s∈q0,s.length≤maxLen): ∃F,M.laws_FnExactTopMerge F q0 q1=some true:=by
 refine⟨10000000,?_⟩
 generalize hF:10000000=F
 unfold M.laws_FnExactTopMerge
 obtain⟨r,hr,h1⟩:=szHitss F q0 1048576 (by omega) (by omega) (by omega) hl
 rw [hr,Option.bind_some]
 by_cases hn:r<0
 ·rw [decide_eq_true hn];rfl
 obtain⟨_,hb⟩:=h1 (by omega)
 have hto:=toHitss F q0 (by omega) hb
 have hi:=implTopX F q0 q1 hb.2
 have ht:=topX_len q0 q1
 have heq:=eqHits F (topX q0 q1) (by omega) (by omega)
 obtain⟨m,hm,hm0⟩:=markHitss F q0 (by omega) hb
 have hk:=kap_nat 1 (by omega) (topX q0 q1).length (by omega)
 have hk':decide (kapGHit 1 (topX q0 q1).length<0)=false:=decide_eq_false (by rw [show (1:Int)=((1:Nat):Int) from rfl,hk];omega)
 rw [decide_eq_false hn,cond_false,hto,Option.bind_some,specTopX F q0 q1 hb.2 (by omega),Option.bind_some,Option.bind_some,hi,Option.bind_some,heq,Option.bind_some,Bool.not_true,cond_false,Option.bind_some,eqHitss F q0 (by omega) hb,Option.bind_some,Bool.not_true,cond_false,hm,Option.bind_some,decide_eq_false (by omega),cond_false,Option.bind_some,Bool.not_true,Option.bind_some,cond_false,markHits F _ 1 (by omega) (by omega),Option.bind_some,heldHits F _ 1 (by omega) (by omega),Option.bind_some,hk',cond_false,beq_self_eq_true,Bool.not_true,cond_false,Option.bind_some,hi,Option.bind_some,heq,Option.bind_some,Bool.not_true,cond_false,Option.bind_some,hk',cond_false,beq_self_eq_true]
 rfl
end Go.Fk
