/-
  The best of what a question finds: few of them, and so many times. The laws, on the models.
-/
import Derived.Test.YtnloenhmkdpgeaaGreatDoorLawScoreT
import Derived.Test.YtnloenhmkdpgeaaGreatDoorLawTopH
import Derived.Test.YtnloenhmkdpgeaaGreatDoorLawBase
set_option linter.unusedVariables false
namespace Go.Fk
open Go
theorem c3i {α:Type}{o:Option α}{m:α}(h: ∃t,o=some t∧t=m):o=some m:=by
 obtain⟨t,h1,h2⟩:=h
 rw [h1,h2]
def a7h (c:u6)(s:A5)(d:Nat)(q:q7)(m:Int):List E3:=if decide (1≤m)&&decide (m≤16) then (I2 (G6 c s d q)).take m.toNat else []
theorem a84 {c:u6}{s:A5}{d:Nat}{q:q7}{h:E3}(hh:h∈G6 c s d q): ∃x∈s.Docs,h=⟨x.Id,C2 c s d q x⟩∧0<C2 c s d q x:=by
 unfold G6 at hh
 split at hh
 ·obtain⟨x,hx,hp⟩:=List.mem_flatMap.1 hh
  unfold a3T at hp
  split at hp
  ·rename_i h0
   exact⟨x,hx,List.mem_singleton.1 hp,of_decide_eq_true h0⟩
  ·cases hp
 ·cases hh
theorem a7D {c:u6}{s:A5}{d:Nat}{q:q7}: ∀{l:List A1},(l.Pairwise fun a b=>a.Id<b.Id)→(l.flatMap (a3T c s d q)).Nodup
 | [],_=>List.Pairwise.nil
 | x::r,h=>by
  obtain⟨h1,h2⟩:=List.pairwise_cons.1 h
  rw [List.flatMap_cons]
  have ih:=a7D (c:=c) (s:=s) (d:=d) (q:=q) h2
  unfold a3T
  split
  ·rw [List.singleton_append]
   refine List.nodup_cons.2 ⟨fun hm=>?_,ih⟩
   obtain⟨y,hy,hp⟩:=List.mem_flatMap.1 hm
   split at hp
   ·have he:=List.mem_singleton.1 hp
    have e:x.Id=y.Id:=congrArg E3.Doc he
    have:=h1 y hy
    omega
   ·cases hp
  ·exact ih
theorem a8e (c:u6)(s:A5)(d:Nat)(q:q7):(G6 c s d q).Nodup:=by
 unfold G6
 split
 ·rename_i ho
  exact a7D (a0Q (a0w ho).2.1).2.2
 ·exact List.Pairwise.nil
theorem c1b (F:Nat)(m:Int):B3 F m 1 16=some (decide (1≤m)&&decide (m≤16)):=by
 unfold B3
 cases decide (1≤m)<;>rfl
theorem c4S (F:Nat)(m:Int):G0 F m 1 16=some (decide (1≤m)&&decide (m≤16)):=by
 unfold G0
 cases decide (1≤m)<;>rfl
theorem a4a (F:Nat){c:u6}{s:A5}{d:Nat}{q:q7}(m:Int)(hg:I3 d q)(hd:d≤4)(hl:s.Docs.length≤1000000)(hc:c.Stops.length≤2000000)(hF:1000000100<F):R3 F c s q m=some (a7h c s d q m):=by
 unfold R3 a7h
 rw [c1b,a8]
 cases hm:decide (1≤m)&&decide (m≤16) with
 | false=>rfl
 | true=>
  simp only [q8,decide_eq_true_eq] at hm
  have hlen:=a1y c s d q
  rw [l7,i6,b0v F hg hd hl hc hF,a8]
  obtain⟨k,rfl⟩: ∃k:Nat,m=(k:Int):=⟨m.toNat,by omega⟩
  rw [c1N F _ k (a8e c s d q) (by omega),a8,if_pos rfl,Int.toNat_natCast]
theorem c9R (F:Nat){c:u6}{s:A5}{d:Nat}{q:q7}(k:Nat)(ho:G9 c s=true)(hg:I3 d q)(hd:d≤4)(hs:X3 s.Docs)(hc:a1K 100 c)(hF:1000000100<F):a44 F c s q (k:Int)=some ((I2 (G6 c s d q)).take k):=by
 have hfew:=a2D ho
 have hq:G6 c s d q=s.Docs.flatMap (a3T c s d q):=by
  unfold G6
  rw [if_pos ho]
 have hflen: ∀l:List A1,(l.flatMap (a3T c s d q)).length≤l.length:=fun l=>by
  have:=Z4 (g:=a3T c s d q) (m:=1) l fun x _=>b3x c s d q x
  omega
 unfold a44
 have hrun: ∀f:List E3×Int→Option ((List E3×Int)⊕List E3),(∀(i:Nat) (hi:i<s.Docs.length),f ((I2 ((s.Docs.take i).flatMap (a3T c s d q))).take k,(i:Int))=some (.inl ((I2 ((s.Docs.take (i+1)).flatMap (a3T c s d q))).take k,((i+1:Nat):Int))))→
   (∀x,f (x,(s.Docs.length:Int))=some (.inr x))→y2 f F ([],0)=some ((I2 (G6 c s d q)).take k):=fun f hf h0=>by
  refine c3i (I7 (Post:=fun r:List E3=>r=(I2 (G6 c s d q)).take k) (fun i (st:List E3×Int)=>st=((I2 ((s.Docs.take i).flatMap (a3T c s d q))).take k,(i:Int))) s.Docs.length (fun i st hi e=>?_) (fun st e=>?_) s.Docs.length 0 ([],0) F (by omega) (by omega) (by rw [List.take_zero];exact congrArg (·,(0:Int)) (List.take_nil).symm))
  ·subst e
   exact .inl ⟨_,hf i hi,rfl⟩
  ·subst e
   refine⟨_,h0 _,?_⟩
   rw [List.take_length,hq]
 rw [hrun _ (fun i hi=>?_) (fun x=>?_)]
 ·rfl
 ·have hx:s.Docs[i]∈s.Docs:=List.getElem_mem hi
  have hlen:=hflen (s.Docs.take i)
  rw [List.length_take] at hlen
  dsimp only
  rw [b8 (by omega),j4,T5 hi,a8,a7w c s s.Docs[i] ho hx hc (by have:=(hs.doc _ hx).nums;omega) hg hd F (by omega),a8,List.take_succ_eq_append_getElem hi,List.flatMap_append,List.flatMap_singleton,y5 (by omega)]
  by_cases h0:0<C2 c s d q s.Docs[i]
  ·have hh:a3T c s d q s.Docs[i]=[⟨s.Docs[i].Id,C2 c s d q s.Docs[i]⟩]:=by
    unfold a3T
    rw [b8 h0,if_pos rfl]
   have hln:((I2 ((s.Docs.take i).flatMap (a3T c s d q))).take k).length≤1000:=by
    rw [List.length_take,a4e]
    omega
   rw [b8 h0,j4,a8,c3n F _ _ k hln (by omega),a8,hh,b8B,b5r]
  ·have hh:a3T c s d q s.Docs[i]=[]:=by
    unfold a3T
    rw [c6 h0,if_neg (by decide)]
   rw [c6 h0,i6,hh,List.append_nil]
 ·dsimp only
  rw [c6 (by omega)];rfl
theorem a9b (F:Nat){c:u6}{s:A5}{d:Nat}{q:q7}(m:Int)(hg:I3 d q)(hd:d≤4)(hs:X3 s.Docs)(hc:a1K 100 c)(hF:1000000100<F):R5 F c s q m=some (a7h c s d q m):=by
 unfold R5 a7h
 rw [a9a F 100 c s hs hc (by omega) (by omega),a8]
 cases ho:G9 c s with
 | false=>
  have:G6 c s d q=[]:=by
   unfold G6
   rw [if_neg (by rw [ho];decide)]
  rw [this]
  show some []=_
  split
  ·rw [show I2 []=[] from rfl,List.take_nil]
  ·rfl
 | true=>
  rw [l7,i6,c4c F hg hd (by omega),a8,l7,i6,c4S,a8]
  cases hm:decide (1≤m)&&decide (m≤16) with
  | false=>rfl
  | true=>
   simp only [q8,decide_eq_true_eq] at hm
   obtain⟨k,rfl⟩: ∃k:Nat,m=(k:Int):=⟨m.toNat,by omega⟩
   rw [l7,a8,i6,if_pos rfl,Int.toNat_natCast,c9R F k ho hg hd hs hc hF,a8]
theorem a4u (F:Nat)(code:List UInt8)(hF:200000<F): ∃c s q m,P5 F code=some (c,s,q,m)∧a1K 100 c∧X3 s.Docs∧I3 3 q:=by
 unfold P5
 obtain⟨r,hr,h1,h2⟩:=b0Q F code
 rw [hr,a8]
 obtain⟨c,s,p,hs,⟨p0,p1⟩,hcd,hsf,_⟩:=a8Y F r ⟨h1,by omega,by omega⟩ hF
 rw [hs,a8]
 dsimp only
 have hdq:=a80 (d:=2) (by omega)
 obtain⟨q,p',hq,⟨q0,q1⟩,hg⟩:=a6c 2 F ⟨r.b_,p⟩ (by omega) (by omega) h1 (by simp only;omega) (by simp only;omega)
 simp only at q0 q1
 rw [show ((2+1:Nat):Int)=3 from rfl] at hq
 rw [hq,a8]
 dsimp only
 obtain⟨x,_,hx⟩:=b8r F ⟨r.b_,p'⟩ [1,2,3,16,0,17] ⟨h1,by simp only;omega,by simp only;omega⟩ (by simp)
 rw [hx]
 exact⟨_,_,_,_,rfl,hcd.fit,hsf,hg⟩
theorem a2r (F:Nat)(l:List E3)(hl:l.length≤1000)(hF:2000<F):M5 F l l=some true:=by
 unfold M5
 rw [beq_self_eq_true,l7,i6,b2T (n:=l.length) F (by omega) (fun i hi=>?_) ?_]
 ·rfl
 ·rw [c6 (by omega)];rfl
 ·rw [b8 (by omega),j4,T5 hi,a8,a8,beq_self_eq_true,beq_self_eq_true,y5 (by omega)];rfl
theorem b05 (c:u6)(s:A5)(d:Nat)(q:q7)(m:Int):(a7h c s d q m).length≤16:=by
 have:=a1y c s d q
 unfold a7h
 split
 ·rw [List.length_take,a4e];omega
 ·simp
end Go.Fk
