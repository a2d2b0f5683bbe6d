/-
  The best of what a question finds: few of them, and so many times. The laws, on the models.
-/
import Derived.Test.YtnloenhmkdpgeaaGreatDoorModelLTopFew
import Derived.Test.YtnloenhmkdpgeaaGreatDoorModelLTopTimes
import Derived.Test.YtnloenhmkdpgeaaGreatDoorLawScoreT
import Derived.Test.YtnloenhmkdpgeaaGreatDoorLawTopH
set_option linter.unusedVariables false
namespace Go.Fk
open Go
theorem c3i {α:Type}{o:Option α}{m:α}(h: ∃t,o=some t∧t=m):o=some m:=by
 obtain⟨t,h1,h2⟩:=h
 rw [h1,h2]
def a7h (c:u6)(s:A5)(d:Nat)(q:q7)(m:Int):List E3:=if decide (1≤m)&&decide (m≤16) then (I2 (G6 c s d q)).take m.toNat else []
theorem a84 {c:u6}{s:A5}{d:Nat}{q:q7}{h:E3}(hh:h∈G6 c s d q): ∃x∈s.Docs,h=⟨x.Id,C2 c s d q x⟩∧0<C2 c s d q x:=by
 unfold G6 at hh
 split at hh
 ·obtain⟨x,hx,hp⟩:=List.mem_flatMap.1 hh
  unfold a3T at hp
  split at hp
  ·rename_i h0
   exact⟨x,hx,List.mem_singleton.1 hp,of_decide_eq_true h0⟩
  ·cases hp
 ·cases hh
theorem a7D {c:u6}{s:A5}{d:Nat}{q:q7}: ∀{l:List A1},(l.Pairwise fun a b=>a.Id<b.Id)→(l.flatMap (a3T c s d q)).Nodup
 | [],_=>List.Pairwise.nil
 | x::r,h=>by
  obtain⟨h1,h2⟩:=List.pairwise_cons.1 h
  rw [List.flatMap_cons]
  have ih:=a7D (c:=c) (s:=s) (d:=d) (q:=q) h2
  unfold a3T
  split
  ·rw [List.singleton_append]
   refine List.nodup_cons.2 ⟨fun hm=>?_,ih⟩
   obtain⟨y,hy,hp⟩:=List.mem_flatMap.1 hm
   split at hp
   ·have he:=List.mem_singleton.1 hp
    have e:x.Id=y.Id:=congrArg E3.Doc he
    have:=h1 y hy
    omega
   ·cases hp
  ·exact ih
theorem a8e (c:u6)(s:A5)(d:Nat)(q:q7):(G6 c s d q).Nodup:=by
 unfold G6
 split
 ·rename_i ho
  exact a7D (a0Q (a0w ho).2.1).2.2
 ·exact List.Pairwise.nil
theorem c1b (F:Nat)(m:Int):B3 F m 1 16=some (decide (1≤m)&&decide (m≤16)):=by
 unfold B3
 cases decide (1≤m)<;>rfl
theorem c4S (F:Nat)(m:Int):G0 F m 1 16=some (decide (1≤m)&&decide (m≤16)):=by
 unfold G0
 cases decide (1≤m)<;>rfl
theorem a4a (F:Nat){c:u6}{s:A5}{d:Nat}{q:q7}(m:Int)(hg:I3 d q)(hd:d≤4)(hl:s.Docs.length≤1000000)(hc:c.Stops.length≤2000000)(hF:1000000100<F):R3 F c s q m=some (a7h c s d q m):=by
 unfold R3 a7h
 rw [c1b,a8]
 cases hm:decide (1≤m)&&decide (m≤16) with
 | false=>rfl
 | true=>
  simp only [q8,decide_eq_true_eq] at hm
  have hlen:=a1y c s d q
  rw [l7,i6,b0v F hg hd hl hc hF,a8]
  obtain⟨k,rfl⟩: ∃k:Nat,m=(k:Int):=⟨m.toNat,by omega⟩
  rw [c1N F _ k (a8e c s d q) (by omega),a8,if_pos rfl,Int.toNat_natCast]
theorem a9b (F:Nat){c:u6}{s:A5}{d:Nat}{q:q7}(m:Int)(hg:I3 d q)(hd:d≤4)(hs:X3 s.Docs)(hc:a1K 100 c)(hF:1000000100<F):R5 F c s q m=some (a7h c s d q m):=by
 unfold R5 a7h
 rw [a9a F 100 c s hs hc (by omega) (by omega),a8]
 cases ho:G9 c s with
 | false=>
  have:G6 c s d q=[]:=by
   unfold G6
   rw [if_neg (by rw [ho];decide)]
  rw [this]
  show some []=_
  split
  ·rw [show I2 []=[] from rfl,List.take_nil]
  ·rfl
 | true=>
  have hfew:=a2D ho
  rw [l7,i6,c4c F hg hd (by omega),a8,l7,i6,c4S,a8]
  cases hm:decide (1≤m)&&decide (m≤16) with
  | false=>rfl
  | true=>
   simp only [q8,decide_eq_true_eq] at hm
   obtain⟨k,rfl⟩: ∃k:Nat,m=(k:Int):=⟨m.toNat,by omega⟩
   rw [l7,a8,i6,if_pos rfl,Int.toNat_natCast]
   have hq:G6 c s d q=s.Docs.flatMap (a3T c s d q):=by
    unfold G6
    rw [if_pos ho]
   have hflen: ∀l:List A1,(l.flatMap (a3T c s d q)).length≤l.length:=fun l=>by
    have:=Z4 (g:=a3T c s d q) (m:=1) l fun x _=>b3x c s d q x
    omega
   unfold a44
   have hrun: ∀f:List E3×Int→Option ((List E3×Int)⊕List E3),(∀(i:Nat) (hi:i<s.Docs.length),f ((I2 ((s.Docs.take i).flatMap (a3T c s d q))).take k,(i:Int))=some (.inl ((I2 ((s.Docs.take (i+1)).flatMap (a3T c s d q))).take k,((i+1:Nat):Int))))→
     (∀x,f (x,(s.Docs.length:Int))=some (.inr x))→y2 f F ([],0)=some ((I2 (G6 c s d q)).take k):=fun f hf h0=>by
    refine c3i (I7 (Post:=fun r:List E3=>r=(I2 (G6 c s d q)).take k) (fun i (st:List E3×Int)=>st=((I2 ((s.Docs.take i).flatMap (a3T c s d q))).take k,(i:Int))) s.Docs.length (fun i st hi e=>?_) (fun st e=>?_) s.Docs.length 0 ([],0) F (by omega) (by omega) (by rw [List.take_zero];exact congrArg (·,(0:Int)) (List.take_nil).symm))
    ·subst e
     exact .inl ⟨_,hf i hi,rfl⟩
    ·subst e
     refine⟨_,h0 _,?_⟩
     rw [List.take_length,hq]
   rw [hrun _ (fun i hi=>?_) (fun x=>?_),a8,a8,a8]
   ·have hx:s.Docs[i]∈s.Docs:=List.getElem_mem hi
    have hlen:=hflen (s.Docs.take i)
    rw [List.length_take] at hlen
    dsimp only
    rw [b8 (by omega),j4,T5 hi,a8,a7w c s s.Docs[i] ho hx hc (by have:=(hs.doc _ hx).nums;omega) hg hd F (by omega),a8,List.take_succ_eq_append_getElem hi,List.flatMap_append,List.flatMap_singleton,y5 (by omega)]
    by_cases h0:0<C2 c s d q s.Docs[i]
    ·have hh:a3T c s d q s.Docs[i]=[⟨s.Docs[i].Id,C2 c s d q s.Docs[i]⟩]:=by
      unfold a3T
      rw [b8 h0,if_pos rfl]
     have hln:((I2 ((s.Docs.take i).flatMap (a3T c s d q))).take k).length≤1000:=by
      rw [List.length_take,a4e]
      omega
     rw [b8 h0,j4,a8,c3n F _ _ k hln (by omega),a8,hh,b8B,b5r]
    ·have hh:a3T c s d q s.Docs[i]=[]:=by
      unfold a3T
      rw [c6 h0,if_neg (by decide)]
     rw [c6 h0,i6,hh,List.append_nil]
   ·dsimp only
    rw [c6 (by omega)];rfl
theorem a4u (F:Nat)(code:List UInt8)(hF:200000<F): ∃c s q m,P5 F code=some (c,s,q,m)∧a1K 100 c∧X3 s.Docs∧I3 3 q:=by
 unfold P5
 obtain⟨r,hr,h1,h2⟩:=b0Q F code
 rw [hr,a8]
 obtain⟨c,s,p,hs,⟨p0,p1⟩,hcd,hsf,_⟩:=a8Y F r ⟨h1,by omega,by omega⟩ hF
 rw [hs,a8]
 dsimp only
 have hdq:=a80 (d:=2) (by omega)
 obtain⟨q,p',hq,⟨q0,q1⟩,hg⟩:=a6c 2 F ⟨r.b_,p⟩ (by omega) (by omega) h1 (by simp only;omega) (by simp only;omega)
 simp only at q0 q1
 rw [show ((2+1:Nat):Int)=3 from rfl] at hq
 rw [hq,a8]
 dsimp only
 obtain⟨x,_,hx⟩:=b8r F ⟨r.b_,p'⟩ [1,2,3,16,0,17] ⟨h1,by simp only;omega,by simp only;omega⟩ (by simp)
 rw [hx]
 exact⟨_,_,_,_,rfl,hcd.fit,hsf,hg⟩
theorem a2r (F:Nat)(l:List E3)(hl:l.length≤1000)(hF:2000<F):M5 F l l=some true:=by
 unfold M5
 rw [beq_self_eq_true,l7,i6,b2T (n:=l.length) F (by omega) (fun i hi=>?_) ?_]
 ·rfl
 ·rw [c6 (by omega)];rfl
 ·rw [b8 (by omega),j4,T5 hi,a8,a8,beq_self_eq_true,beq_self_eq_true,y5 (by omega)];rfl
theorem b05 (c:u6)(s:A5)(d:Nat)(q:q7)(m:Int):(a7h c s d q m).length≤16:=by
 have:=a1y c s d q
 unfold a7h
 split
 ·rw [List.length_take,a4e];omega
 ·simp
theorem b8l (code:List UInt8): ∃F,a3X F code=some true:=by
 refine⟨2000000000,?_⟩
 generalize hF:2000000000=F
 unfold a3X
 cases decide ((1048576:Int)<(code.length:Int))
 case true=>rfl
 obtain⟨c,s,q,m,h1,hc,hs,hq⟩:=a4u F code (by omega)
 have hl:=hs.few
 have hst:=hc.stops.1
 have hlen:=b05 c s 3 q m
 rw [i6,h1,a8]
 dsimp only
 rw [a4a F m hq (by omega) (by omega) (by omega) (by omega),a8,a9b F m hq (by omega) hs hc (by omega),a8,a2r F _ (by omega) (by omega),a8,l7,i6,a1T F c s (by omega) (by omega) (by omega),a8,a8,a2r F _ (by omega) (by omega),a8]
 cases ho:G9 c s with
 | false=>rfl
 | true=>
 rw [l7,i6]
 by_cases hm1:m<1
 ·rw [b8 hm1];rfl
 rw [c6 hm1,i6,a8]
 by_cases hm2:16<m
 ·rw [b8 hm2];rfl
 rw [c6 hm2,i6,a4a F 16 hq (by omega) (by omega) (by omega) (by omega),a8]
 have hh:=a1y c s 3 q
 have hall:a7h c s 3 q 16=I2 (G6 c s 3 q):=by
  unfold a7h
  rw [if_pos (by decide)]
  exact List.take_of_length_le (by rw [a4e];show _≤16;omega)
 have hlist:a7h c s 3 q m=(I2 (G6 c s 3 q)).take m.toNat:=by
  unfold a7h
  rw [b8 (by omega),b8 (by omega)];rfl
 have hsl:=a4e (G6 c s 3 q)
 rw [hall]
 have hcut:((cond (decide (m<((I2 (G6 c s 3 q)).length:Int))) (some m) (some ((I2 (G6 c s 3 q)).length:Int))):Option Int)=some ((min m.toNat (I2 (G6 c s 3 q)).length:Nat):Int):=by
  by_cases h:m<((I2 (G6 c s 3 q)).length:Int)
  ·rw [b8 h,j4]
   congr 1;omega
  ·rw [c6 h,i6]
   congr 1;omega
 rw [hcut,a8,b5o (Nat.min_le_right _ _),a8,hlist,show (I2 (G6 c s 3 q)).take (min m.toNat (I2 (G6 c s 3 q)).length)=(I2 (G6 c s 3 q)).take m.toNat by rw [←List.take_take,List.take_length]]
 rw [hlist] at hlen
 rw [a2r F _ (by omega) (by omega),a8,j4,a23 F hq (by omega) (by omega) (by omega) (by omega),a8,List.length_map,a4e,beq_self_eq_true]
def R8 (h:E3):E3:=⟨h.Doc,3*h.Points⟩
theorem b63 (a b:E3):P1 (R8 a) (R8 b)=P1 a b:=by
 unfold P1 R8
 dsimp only
 by_cases h1:b.Points<a.Points
 ·rw [b8 h1,b8 (by omega)];rfl
 ·rw [c6 h1,c6 (by omega)]
  by_cases h2:a.Points=b.Points
  ·rw [beq_iff_eq.2 h2,beq_iff_eq.2 (by omega)]
  ·rw [beq_eq_false_iff_ne.2 h2,beq_eq_false_iff_ne.2 (by omega)]
theorem b3B (h:E3): ∀l:List E3,a4E (R8 h) (l.map R8)=(a4E h l).map R8
 | []=>rfl
 | a::l=>by
  show (if P1 (R8 a) (R8 h) then R8 a::a4E (R8 h) (l.map R8) else R8 h::R8 a::l.map R8)=(if P1 a h then a::a4E h l else h::a::l).map R8
  rw [b63,b3B h l]
  split<;>rfl
theorem a7Q: ∀(l acc:List E3),(l.map R8).foldl (fun acc h=>a4E h acc) (acc.map R8)=(l.foldl (fun acc h=>a4E h acc) acc).map R8
 | [],acc=>rfl
 | h::l,acc=>by
  rw [List.map_cons,List.foldl_cons,List.foldl_cons,b3B,a7Q l]
theorem b7K (l:List E3):I2 (l.map R8)=(I2 l).map R8:=a7Q l []
theorem b6O {c:u6}{s:A5}{d:Nat}{q:q7}(hq:I3 d q):G6 c s (d+1) ⟨10,[],[],3,0,[q]⟩=(G6 c s d q).map R8:=by
 unfold G6
 split
 ·rename_i ho
  rw [List.map_flatMap]
  congr 1
  funext x
  have e:C2 c s (d+1) ⟨10,[],[],3,0,[q]⟩ x=3*C2 c s d q x:=rfl
  unfold a3T
  rw [e]
  by_cases h0:0<C2 c s d q x
  ·rw [b8 h0,b8 (by omega)];rfl
  ·rw [c6 h0,c6 (by omega)];rfl
 ·rfl
theorem b5O (code:List UInt8): ∃F,a2y F code=some true:=by
 refine⟨2000000000,?_⟩
 generalize hF:2000000000=F
 unfold a2y
 cases decide ((1048576:Int)<(code.length:Int))
 case true=>rfl
 obtain⟨c,s,q,m,h1,hc,hs,hq⟩:=a4u F code (by omega)
 have hl:=hs.few
 have hst:=hc.stops.1
 have hlen:=b05 c s 3 q m
 have gt:I3 4 ⟨10,[],[],3,0,[q]⟩:=.times (by omega) (by omega) hq
 rw [i6,h1,a8]
 dsimp only
 rw [a4a F m hq (by omega) (by omega) (by omega) (by omega),a8,a9b F m hq (by omega) hs hc (by omega),a8,a2r F _ (by omega) (by omega),a8,l7,i6,a1T F c s (by omega) (by omega) (by omega),a8,a8,a2r F _ (by omega) (by omega),a8]
 cases ho:G9 c s with
 | false=>rfl
 | true=>
 rw [l7,i6,a65 F gt (by omega) (by omega),a8,l7,a8,i6,a4a F m gt (by omega) (by omega) (by omega) (by omega),a8]
 have ht:a7h c s 4 ⟨10,[],[],3,0,[q]⟩ m=(a7h c s 3 q m).map R8:=by
  unfold a7h
  rw [b6O hq,b7K]
  split
  ·rw [List.map_take]
  ·rfl
 have hp: ∀h∈a7h c s 3 q m,0≤h.Points∧h.Points≤1000000000000*46656:=fun h hh=>by
  have hm:h∈I2 (G6 c s 3 q):=by
   unfold a7h at hh
   split at hh
   ·exact List.mem_of_mem_take hh
   ·cases hh
  rw [(a42 (a8e c s 3 q)).2.1] at hm
  obtain⟨x,hx,rfl,h0⟩:=a84 hm
  have:=(a3u c s x ho hq).2
  have h3:=b8Y (d:=3) (by omega)
  exact⟨by show (0:Int)≤C2 c s 3 q x;omega,by show C2 c s 3 q x≤_;omega⟩
 rw [ht]
 generalize a7h c s 3 q m=L at *
 rw [b2T (n:=L.length) F (by omega) (fun i hi=>?_) ?_,a8]
 ·show some (((L.map R8).length:Int)==(L.length:Int))=some true
  rw [List.length_map,beq_self_eq_true]
 ·rw [c6 (by omega)];rfl
 ·have hr:=hp L[i] (List.getElem_mem hi)
  have hg:v8 (L.map R8) (i:Int)=some (R8 L[i]):=by rw [n8,List.getElem?_map,j8 hi];rfl
  rw [b8 (by omega),j4,List.length_map,c6 (by omega),i6,hg,a8,T5 hi,a8,a8,a8,C5 (n:=3*L[i].Points) ⟨by omega,by omega⟩]
  show ((cond (!(L[i].Doc==L[i].Doc)) (some true) (some (!(3*L[i].Points==3*L[i].Points)))).bind _)=_
  rw [beq_self_eq_true,beq_self_eq_true,l7,i6,a8,i6,y5 (by omega)]
end Go.Fk
