/-
  Pages of what a question finds, and what a shard finds. The laws, on the models.
-/
import Derived.Test.YtepcfgnicnibnaaGreatDoorModelLPageNext
import Derived.Test.YtepcfgnicnibnaaGreatDoorModelLPageOf
import Derived.Test.YtepcfgnicnibnaaGreatDoorModelLShardTop
import Derived.Test.YtepcfgnicnibnaaGreatDoorLawTopP
set_option linter.unusedVariables false
namespace Go.Fk
open Go
def b4p (c:u5)(s:A7)(d:Nat)(q:r5)(p:B0→Bool)(m:Int):List B0:=if decide (1≤m)&&decide (m≤16) then (J0 ((I4 c s d q).filter p)).take m.toNat else []
theorem c2R (c:u5)(s:A7)(d:Nat)(q:r5)(p:B0→Bool)(m:Int):(b4p c s d q p m).length≤16:=by
 have h1:=a0S c s d q
 have h2:=List.length_filter_le p (I4 c s d q)
 unfold b4p
 split
 ·rw [List.length_take,a2C];omega
 ·simp
theorem b7P {c:u5}{s:A7}{d:Nat}{q:r5}{p:B0→Bool}{m:Int}(h1:1≤m)(h2:m≤16):b4p c s d q p m=((J0 (I4 c s d q)).filter p).take m.toNat:=by
 unfold b4p
 rw [b8 h1,b8 h2,if_pos (by decide),b7w p (a3q c s d q)]
theorem b37 (F:Nat){c:u5}{s:A7}{d:Nat}{q:r5}(m:Int)(a:B0)(hg:I8 d q)(hd:d≤4)(hl:s.Docs.length≤1000000)(hc:c.Stops.length≤2000000)(hF:1000000100<F):a0e F c s q m a=some (b4p c s d q (O4 a) m):=by
 unfold a0e b4p
 rw [b04,a8]
 cases hm:decide (1≤m)&&decide (m≤16) with
 | false=>rfl
 | true=>
  simp only [l8,decide_eq_true_eq] at hm
  have hlen:=a0S c s d q
  have h2:=List.length_filter_le (O4 a) (I4 c s d q)
  rw [l9,i6,a3K F hg hd hl hc hF,a8]
  obtain⟨k,rfl⟩: ∃k:Nat,m=(k:Int):=⟨m.toNat,by omega⟩
  rw [a4s (xs:=I4 c s d q) (fun h=>if O4 a h then [h] else []) 100 (fun i x acc hx hB=>?_) [] (by rw [List.nil_append,a4E];omega),List.nil_append,a4E,a8,a8,a9C F _ k ((a3q c s d q).filter _) (by omega),a8,if_pos rfl,Int.toNat_natCast]
  rw [n5,hx,a8,b8r,a8,b6Z]
  cases hp:O4 a x with
  | false=>rw [i6,if_neg (by decide),List.append_nil]
  | true=>
   rw [hp,if_pos rfl,n9,j9] at hB
   rw [i9,F1 (by simp only [j9];omega),if_pos rfl];rfl
theorem b4l {L:List B0}(h:a3a L){j:Nat}(hj:j<L.length):L.filter (O4 L[j])=L.drop (j+1):=by
 have e:L=L.take (j+1)++L.drop (j+1):=(List.take_append_drop _ _).symm
 have hs:a3a (L.take (j+1)++L.drop (j+1)):=by rw [←e];exact h
 have htk:=List.take_succ_eq_append_getElem hj
 conv=>lhs;arg 2;rw [e]
 rw [List.filter_append]
 have h1:(L.take (j+1)).filter (O4 L[j])=[]:=by
  rw [List.filter_eq_nil_iff]
  intro x hx
  rw [htk,List.mem_append,List.mem_singleton] at hx
  rcases hx with hx | rfl
  ·have hp:a3a (L.take j++[L[j]]):=by rw [←htk];exact h.sublist (List.take_sublist _ _)
   rw [a7J ((List.pairwise_append.1 hp).2.2 x hx L[j] (List.mem_singleton.2 rfl))];decide
  ·rw [a3M];decide
 have h2:(L.drop (j+1)).filter (O4 L[j])=L.drop (j+1):=by
  rw [List.filter_eq_self]
  intro x hx
  exact(List.pairwise_append.1 hs).2.2 L[j] (by rw [htk];exact List.mem_append_right _ (List.mem_singleton.2 rfl)) x hx
 rw [h1,h2,List.nil_append]
def a2x (n w:Int)(h:B0):Bool:=h.Doc.tmod n==w
def a79 (c:u5)(s:A7)(d:Nat)(q:r5)(n w m:Int):List B0:=if (decide (1≤n)&&decide (n≤4))&&(decide (0≤w)&&decide (w≤n-1)) then b4p c s d q (a2x n w) m else []
theorem b8o {x n:Int}(h:1≤n):a42 x n=some (x.tmod n):=by
 unfold a42
 rw [if_neg (by omega)]
theorem a9h (F:Nat)(m a b:Int):y9 F m a b=some (decide (a≤m)&&decide (m≤b)):=by
 unfold y9
 cases decide (a≤m)<;>rfl
theorem b8j (F:Nat)(m a b:Int):D7 F m a b=some (decide (a≤m)&&decide (m≤b)):=by
 unfold D7
 cases decide (a≤m)<;>rfl
theorem b36 (F:Nat){c:u5}{s:A7}{d:Nat}{q:r5}(n w m:Int)(hn:n≤10∧0≤n)(hg:I8 d q)(hd:d≤4)(hl:s.Docs.length≤1000000)(hc:c.Stops.length≤2000000)(hF:1000000100<F):a1l F c s q n w m=some (a79 c s d q n w m):=by
 unfold a1l a3D a79 b4p
 rw [a9h,a8]
 cases h1:decide (1≤n)&&decide (n≤4) with
 | false=>rfl
 | true=>
 simp only [l8,decide_eq_true_eq] at h1
 rw [i9,a9h,a8,a8,B9 (n:=n-1) ⟨by omega,by omega⟩,q8]
 cases h2:decide (0≤w)&&decide (w≤n-1) with
 | false=>rfl
 | true=>
 rw [l9,i6,a9h,a8,if_pos rfl]
 cases hm:decide (1≤m)&&decide (m≤16) with
 | false=>rfl
 | true=>
  simp only [l8,decide_eq_true_eq] at hm
  have hlen:=a0S c s d q
  have h2:=List.length_filter_le (a2x n w) (I4 c s d q)
  rw [l9,a8,i6,a3K F hg hd hl hc hF,a8]
  obtain⟨k,rfl⟩: ∃k:Nat,m=(k:Int):=⟨m.toNat,by omega⟩
  rw [a4s (xs:=I4 c s d q) (fun h=>if a2x n w h then [h] else []) 100 (fun i x acc hx hB=>?_) [] (by rw [List.nil_append,a4E];omega),List.nil_append,a4E,a8,a8,a9C F _ k ((a3q c s d q).filter _) (by omega),a8,if_pos rfl,Int.toNat_natCast]
  rw [n5,hx,a8,b8o h1.1,a8]
  show (cond (a2x n w x) _ _)=_
  cases hp:a2x n w x with
  | false=>rw [i6,if_neg (by decide),List.append_nil]
  | true=>
   rw [hp,if_pos rfl,n9,j9] at hB
   rw [i9,F1 (by simp only [j9];omega),if_pos rfl];rfl
theorem b4n (F:Nat){c:u5}{s:A7}{d:Nat}{q:r5}(n w m:Int)(hn:n≤10∧0≤n)(hg:I8 d q)(hd:d≤4)(hs:Q2 s.Docs)(hc:a0B 100 c)(hF:1000000100<F):a0g F c s q n w m=some (a79 c s d q n w m):=by
 unfold a0g a79 b4p
 rw [a99 F 100 c s hs hc (by omega) (by omega),a8]
 cases ho:N0 c s with
 | false=>
  have e:I4 c s d q=[]:=by
   unfold I4
   rw [if_neg (by rw [ho];decide)]
  rw [e]
  show some []=_
  split
  ·split
   ·rw [show J0 (List.filter (a2x n w) [])=[] from rfl,List.take_nil]
   ·rfl
  ·rfl
 | true=>
  have hfew:=a3g ho
  rw [l9,i6,b9p F hg hd (by omega),a8,l9,i6,b8j,a8]
  cases hm:decide (1≤m)&&decide (m≤16) with
  | false=>
   show some []=_
   split<;>rfl
  | true=>
  simp only [l8,decide_eq_true_eq] at hm
  obtain⟨k,rfl⟩: ∃k:Nat,m=(k:Int):=⟨m.toNat,by omega⟩
  rw [l9,i6,b8j,a8]
  cases h1:decide (1≤n)&&decide (n≤4) with
  | false=>rfl
  | true=>
  simp only [l8,decide_eq_true_eq] at h1
  rw [l9,i6,B9 (n:=n-1) ⟨by omega,by omega⟩,b8j,a8,q8]
  cases h2:decide (0≤w)&&decide (w≤n-1) with
  | false=>rfl
  | true=>
  rw [l9,a8,i6,if_pos rfl,if_pos rfl,Int.toNat_natCast]
  rw [c1m F ho d q (a2x n w) k (by omega) (by omega) (fun i hi=>?_) (fun x=>?_)]
  ·rfl
  ·have hx:s.Docs[i]∈s.Docs:=List.getElem_mem hi
   dsimp only
   rw [b8 (by omega),i9,a0m hi,a8,a6V c s s.Docs[i] ho hx hc (by have:=(hs.doc _ hx).nums;omega) hg hd F (by omega),a8,a8,a8,b8o h1.1,a8,y2 (by omega)]
   show ((cond (decide (0<D1 c s d q s.Docs[i])) (some (a2x n w (b34 c s d q s.Docs[i]))) (some false)).bind _)=_
   cases decide (0<D1 c s d q s.Docs[i]) with
   | false=>rfl
   | true=>
    cases a2x n w (b34 c s d q s.Docs[i])<;>rfl
  ·dsimp only
   rw [c6 (by omega)];rfl
theorem b39 (F:Nat)(code:List UInt8)(hF:200000<F): ∃c s q n w m,V0 F code=some (c,s,q,n,w,m)∧a0B 100 c∧Q2 s.Docs∧I8 3 q∧n≤4∧1≤n∧m≤16:=by
 unfold V0
 obtain⟨r,hr,h1,h2⟩:=b2y F code
 rw [hr,a8]
 obtain⟨c,s,p,hs,⟨p0,p1⟩,hcd,hsf,_⟩:=b0n F r ⟨h1,by omega,by omega⟩ hF
 rw [hs,a8]
 dsimp only
 have hdq:=a8k (d:=2) (by omega)
 obtain⟨q,p',hq,⟨q0,q1⟩,hg⟩:=a5A 2 F ⟨r.b_,p⟩ (by omega) (by omega) h1 (by simp only;omega) (by simp only;omega)
 simp only at q0 q1
 rw [show ((2+1:Nat):Int)=3 from rfl] at hq
 rw [hq,a8]
 dsimp only
 obtain⟨x,hx,x0,x1⟩:=H7 F ⟨r.b_,p'⟩ 4 ⟨h1,by simp only;omega,by simp only;omega⟩
 have x1':=x1 (by omega)
 rw [hx,a8]
 dsimp only
 rw [B9 (n:=1+x) ⟨by omega,by omega⟩,B9 (n:=1+x+1) ⟨by omega,by omega⟩]
 obtain⟨y,hy,y0,y1⟩:=H7 F ⟨r.b_,p'+1⟩ (1+x+1) ⟨h1,by simp only;omega,by simp only;omega⟩
 have y1':=y1 (by omega)
 rw [hy,a8]
 dsimp only
 obtain⟨z,hz,z0,z1⟩:=H7 F ⟨r.b_,p'+1+1⟩ 2 ⟨h1,by simp only;omega,by simp only;omega⟩
 rw [hz,a8]
 dsimp only
 obtain⟨m,hm,hm'⟩:=b0T F ⟨r.b_,p'+1+1+1⟩ [1,2,16,0] ⟨h1,by simp only;omega,by simp only;omega⟩ (by simp)
 rw [hm']
 exact⟨_,_,_,_,_,_,rfl,hcd.fit,hsf,hg,by omega,by omega,(by decide : ∀m∈([1,2,16,0]:List Int),m≤16) m hm⟩
theorem c1j (c:u5)(s:A7)(d:Nat)(q:r5):b56 c s d q 16=J0 (I4 c s d q):=by
 have hh:=a0S c s d q
 unfold b56
 rw [if_pos (by decide)]
 exact List.take_of_length_le (by rw [a2C];show _≤16;omega)
theorem b5G (code:List UInt8): ∃F,a1P F code=some true:=by
 refine⟨2000000000,?_⟩
 generalize hF:2000000000=F
 unfold a1P
 cases decide ((1048576:Int)<(code.length:Int))
 case true=>rfl
 obtain⟨c,s,q,n,w,m,h1,hc,hs,hq,hn,hn0,hm⟩:=b39 F code (by omega)
 have hl:=hs.few
 have hst:=hc.stops.1
 have hlen:(a79 c s 3 q n w m).length≤16:=by
  unfold a79
  split
  ·exact c2R ..
  ·simp
 rw [i6,h1,a8]
 dsimp only
 rw [b36 F n w m ⟨by omega,by omega⟩ hq (by omega) (by omega) (by omega) (by omega),a8,b4n F n w m ⟨by omega,by omega⟩ hq (by omega) hs hc (by omega),a8,a36 F _ (by omega) (by omega),a8,l9,i6,a8p F c s (by omega) (by omega) (by omega),a8,a8,a36 F _ (by omega) (by omega),a8]
 cases ho:N0 c s with
 | false=>rfl
 | true=>
 rw [l9,i6]
 by_cases a1:w<0
 ·rw [b8 a1];rfl
 rw [c6 a1,i6]
 by_cases a2:n≤w
 ·rw [b8 a2];rfl
 rw [c6 a2,i6,a8]
 by_cases a3:m<1
 ·rw [b8 a3];rfl
 have hL:=a0S c s 3 q
 have hLs:=a2C (I4 c s 3 q)
 rw [c6 a3,i6,b0A F 16 hq (by omega) (by omega) (by omega) (by omega),a8,c1j]
 have e:a79 c s 3 q n w m=((J0 (I4 c s 3 q)).filter (a2x n w)).take m.toNat:=by
  unfold a79
  rw [b8 (show 1≤n by omega),b8 hn,b8 (show 0≤w by omega),b8 (show w≤n-1 by omega),if_pos (by decide),b7P (by omega) hm]
 rw [c3k F (a2x n w) m.toNat (J0 (I4 c s 3 q)) (by omega) (by omega) (fun i x acc hx ha hb=>?_) (fun i acc ha hi=>?_) (fun acc=>?_),a8,a8,←e,a36 F _ (by omega) (by omega),a8]
 ·have hi:=(i4.1 hx).1
  dsimp only
  rw [b8 (by omega),i9,b8 (by omega),a8,i9,n5,hx,a8,b8o (by omega),a8]
  show (cond (a2x n w x) _ _)=_
  cases a2x n w x with
  | true=>rw [i9,a8,F1 (by simp only [j9];omega),a8,if_pos rfl,y2 (by omega)]
  | false=>rw [i6,if_neg (by decide),List.append_nil,y2 (by omega)]
 ·dsimp only
  rw [c6 (show ¬((acc.length:Int)<m) by omega)]
  cases decide ((i:Int)<((J0 (I4 c s 3 q)).length:Int))<;>rfl
 ·dsimp only
  rw [c6 (by omega)];rfl
def Y6 (k n:Nat):Nat:=(n+k-1)/k
def R3 (L:List B0)(k i:Nat):List B0:=(L.drop (i*k)).take k
def a3k (L:List B0)(k:Nat):List (List B0):=(List.range (Y6 k L.length)).map (R3 L k)
theorem a2m {k n i:Nat}(hk:1≤k):i<Y6 k n↔i*k<n:=by
 unfold Y6
 rw [Nat.lt_iff_add_one_le,Nat.le_div_iff_mul_le hk,Nat.add_mul,Nat.one_mul]
 omega
theorem a9Z {k n:Nat}(hk:1≤k):Y6 k n≤n:=by
 rcases Nat.lt_or_ge n (Y6 k n) with h | h
 ·have:=(a2m hk).1 h
  have:=Nat.mul_le_mul_left n hk
  omega
 ·exact h
theorem b3s (L:List B0)(k:Nat):(a3k L k).length=Y6 k L.length:=by unfold a3k;rw [List.length_map,List.length_range]
theorem a8u {L:List B0}{k i:Nat}(hi:i<Y6 k L.length):u0 (a3k L k) (i:Int)=some (R3 L k i):=by
 unfold a3k
 rw [n5,List.getElem?_map,List.getElem?_range hi];rfl
theorem a8s (L:List B0)(k i:Nat):(R3 L k i).length=min k (L.length-i*k):=by unfold R3;rw [List.length_take,List.length_drop]
theorem b3z (L:List B0)(k i:Nat):(List.range (i+1)).map (R3 L k)=(List.range i).map (R3 L k)++[R3 L k i]:=by rw [List.range_succ,List.map_append];rfl
def b1x (c:u5)(s:A7)(d:Nat)(q:r5)(m:Int):List (List B0):=if decide (1≤m)&&decide (m≤16) then a3k (J0 (I4 c s d q)) m.toNat else []
theorem b3T {α:Type}{l:List α}{i j:Nat}(h:i≤j)(hj:j≤l.length):Y9 l (i:Int) (j:Int)=some ((l.drop i).take (j-i)):=by
 unfold Y9
 rw [if_pos ⟨by omega,by omega,by omega⟩]
 simp [List.drop_take]
theorem b1l (F:Nat){c:u5}{s:A7}{d:Nat}{q:r5}(m:Int)(hg:I8 d q)(hd:d≤4)(hl:s.Docs.length≤1000000)(hc:c.Stops.length≤2000000)(hF:1000000100<F):a1C F c s q m=some (b1x c s d q m):=by
 unfold a1C b1x
 rw [b04,a8]
 cases hm:decide (1≤m)&&decide (m≤16) with
 | false=>rfl
 | true=>
  simp only [l8,decide_eq_true_eq] at hm
  have hlen:=a0S c s d q
  have hls:=a2C (I4 c s d q)
  obtain⟨k,rfl⟩: ∃k:Nat,m=(k:Int):=⟨m.toNat,by omega⟩
  have h16:N2 F (I4 c s d q) 16=some (J0 (I4 c s d q)):=by
   rw [show (16:Int)=((16:Nat):Int) from rfl,a9C F _ 16 (a3q c s d q) (by omega),List.take_of_length_le (by omega)]
  rw [l9,i6,a3K F hg hd hl hc hF,a8,h16,a8,if_pos rfl,Int.toNat_natCast]
  generalize J0 (I4 c s d q)=L at *
  have hk:1≤k:=by omega
  have hle:=a9Z (n:=L.length) hk
  have hrun: ∀f:List (List B0)×Int→Option ((List (List B0)×Int)⊕List (List B0)),(∀i,i<Y6 k L.length→f ((List.range i).map (R3 L k),((i*k:Nat):Int))=some (.inl ((List.range (i+1)).map (R3 L k),(((i+1)*k:Nat):Int))))→
    (f ((List.range (Y6 k L.length)).map (R3 L k),((Y6 k L.length*k:Nat):Int))=some (.inr (a3k L k)))→v8 f F ([],0)=some (a3k L k):=fun f hf h0=>by
   refine a8r (H4 (Post:=fun r:List (List B0)=>r=a3k L k) (fun i (st:List (List B0)×Int)=>st=((List.range i).map (R3 L k),((i*k:Nat):Int))) (Y6 k L.length) (fun i st hi e=>?_) (fun st e=>?_) (Y6 k L.length) 0 ([],0) F (by omega) (by omega) (by rw [Nat.zero_mul];rfl))
   ·subst e
    exact .inl ⟨_,hf i hi,rfl⟩
   ·subst e
    exact⟨_,h0,rfl⟩
  rw [hrun _ (fun i hi=>?_) ?_]
  ·rfl
  ·dsimp only
   have hn: ¬Y6 k L.length*k<L.length:=fun h=>Nat.lt_irrefl _ ((a2m hk).2 h)
   rw [c6 (by omega)];rfl
  ·have hik:=(a2m hk).1 hi
   have hadd:(i+1)*k=i*k+k:=by rw [Nat.add_mul,Nat.one_mul]
   have hpl:=a8s L k i
   dsimp only
   rw [b8 (by omega),i9,B9 (n:=((i*k:Nat):Int)+(k:Int)) ⟨by omega,by omega⟩]
   have hsub:Y9 L ((i*k:Nat):Int) (if (L.length:Int)<((i*k:Nat):Int)+(k:Int) then (L.length:Int) else ((i*k:Nat):Int)+(k:Int))=some (R3 L k i):=by
    split
    ·rw [b3T (by omega) (Nat.le_refl _)]
     unfold R3
     rw [List.take_of_length_le (by rw [List.length_drop];omega),List.take_of_length_le (by rw [List.length_drop];omega)]
    ·rw [show ((i*k:Nat):Int)+(k:Int)=((i*k+k:Nat):Int) by omega,b3T (by omega) (by omega)]
     unfold R3
     rw [Nat.add_sub_cancel_left]
   rw [hsub,a8,F1 (by simp only [List.length_nil];omega),a8,List.nil_append,F1 (by simp only [List.length_map,List.length_range,j9];omega),a8,b3z,hadd]
   congr 4
theorem c0J (F:Nat){c:u5}{s:A7}{d:Nat}{q:r5}(ho:N0 c s=true)(hg:I8 d q)(hd:d≤4)(hs:Q2 s.Docs)(hc:a0B 100 c)(hF:1000000100<F):a0y F c s q 16=some (J0 (I4 c s d q)):=by
 rw [show (16:Int)=((16:Nat):Int) from rfl,c20 F 16 ho hg hd hs hc hF,List.take_of_length_le]
 rw [a2C];exact a0S c s d q
theorem c7v (F:Nat)(a b:Int):W0 F a b=some (if a<b then a else b):=by
 unfold W0
 by_cases h:a<b
 ·rw [b8 h,if_pos h];rfl
 ·rw [c6 h,if_neg h];rfl
theorem b1F (F:Nat){c:u5}{s:A7}{d:Nat}{q:r5}(m:Int)(hg:I8 d q)(hd:d≤4)(hs:Q2 s.Docs)(hc:a0B 100 c)(hF:1000000100<F):a1E F c s q m=some (b1x c s d q m):=by
 unfold a1E b1x
 rw [a99 F 100 c s hs hc (by omega) (by omega),a8]
 cases ho:N0 c s with
 | false=>
  have e:I4 c s d q=[]:=by
   unfold I4
   rw [if_neg (by rw [ho];decide)]
  rw [e]
  show some []=_
  split
  ·rename_i hm
   simp only [l8,decide_eq_true_eq] at hm
   have:Y6 m.toNat 0=0:=by
    unfold Y6
    exact Nat.div_eq_of_lt (by omega)
   unfold a3k
   rw [show (J0 []).length=0 from rfl,this];rfl
  ·rfl
 | true=>
  have hfew:=a3g ho
  rw [l9,i6,b9p F hg hd (by omega),a8,l9,i6,b8k,a8]
  cases hm:decide (1≤m)&&decide (m≤16) with
  | false=>rfl
  | true=>
  simp only [l8,decide_eq_true_eq] at hm
  have hlen:=a0S c s d q
  have hls:=a2C (I4 c s d q)
  obtain⟨k,rfl⟩: ∃k:Nat,m=(k:Int):=⟨m.toNat,by omega⟩
  rw [l9,a8,i6,c0J F ho hg hd hs hc hF,a8,if_pos rfl,Int.toNat_natCast]
  generalize J0 (I4 c s d q)=L at *
  have hk:1≤k:=by omega
  have hle:=a9Z (n:=L.length) hk
  have hrun: ∀f:List (List B0)×List B0→Option ((List (List B0)×List B0)⊕List (List B0)),(∀i,i<Y6 k L.length→f ((List.range i).map (R3 L k),L.drop (i*k))=some (.inl ((List.range (i+1)).map (R3 L k),L.drop ((i+1)*k))))→
    (f ((List.range (Y6 k L.length)).map (R3 L k),L.drop (Y6 k L.length*k))=some (.inr (a3k L k)))→v8 f F ([],L)=some (a3k L k):=fun f hf h0=>by
   refine a8r (H4 (Post:=fun r:List (List B0)=>r=a3k L k) (fun i (st:List (List B0)×List B0)=>st=((List.range i).map (R3 L k),L.drop (i*k))) (Y6 k L.length) (fun i st hi e=>?_) (fun st e=>?_) (Y6 k L.length) 0 ([],L) F (by omega) (by omega) (by rw [Nat.zero_mul];rfl))
   ·subst e
    exact .inl ⟨_,hf i hi,rfl⟩
   ·subst e
    exact⟨_,h0,rfl⟩
  rw [hrun _ (fun i hi=>?_) ?_]
  ·rfl
  ·dsimp only
   have hn: ¬Y6 k L.length*k<L.length:=fun h=>Nat.lt_irrefl _ ((a2m hk).2 h)
   rw [c6 (by rw [List.length_drop];omega)];rfl
  ·have hik:=(a2m hk).1 hi
   have hadd:(i+1)*k=i*k+k:=by rw [Nat.add_mul,Nat.one_mul]
   have hdl:(L.drop (i*k)).length=L.length-i*k:=List.length_drop
   dsimp only
   rw [b8 (by omega),i9,c7v,a8]
   have hmin:(if (k:Int)<((L.drop (i*k)).length:Int) then (k:Int) else ((L.drop (i*k)).length:Int))=((min k (L.length-i*k):Nat):Int):=by
    split<;>omega
   rw [hmin,c0Z (by omega),a8,F1 (by simp only [List.length_nil,List.length_take];omega),a8,List.nil_append,F1 (by simp only [List.length_map,List.length_range,j9];omega),a8,b3T (by omega) (Nat.le_refl _),a8,b3z,hadd]
   have e1:(L.drop (i*k)).take (min k (L.length-i*k))=R3 L k i:=by
    unfold R3
    rw [←hdl,←List.take_take,List.take_length]
   have e2:((L.drop (i*k)).drop (min k (L.length-i*k))).take ((L.drop (i*k)).length-min k (L.length-i*k))=L.drop (i*k+k):=by
    rw [List.take_of_length_le (by rw [List.length_drop];omega),List.drop_drop]
    by_cases h:k≤L.length-i*k
    ·rw [Nat.min_eq_left h]
    ·rw [Nat.min_eq_right (by omega),List.drop_of_length_le (by omega),List.drop_of_length_le (by omega)]
   rw [e1,e2]
theorem b1b (F:Nat)(code:List UInt8)(hF:200000<F): ∃c s q m,T8 F code=some (c,s,q,m)∧a0B 100 c∧Q2 s.Docs∧I8 3 q∧m≤16:=by
 unfold T8
 obtain⟨r,hr,h1,h2⟩:=b2y F code
 rw [hr,a8]
 obtain⟨c,s,p,hs,⟨p0,p1⟩,hcd,hsf,_⟩:=b0n F r ⟨h1,by omega,by omega⟩ hF
 rw [hs,a8]
 dsimp only
 have hdq:=a8k (d:=2) (by omega)
 obtain⟨q,p',hq,⟨q0,q1⟩,hg⟩:=a5A 2 F ⟨r.b_,p⟩ (by omega) (by omega) h1 (by simp only;omega) (by simp only;omega)
 simp only at q0 q1
 rw [show ((2+1:Nat):Int)=3 from rfl] at hq
 rw [hq,a8]
 dsimp only
 obtain⟨m,hm,hm'⟩:=b0T F ⟨r.b_,p'⟩ [1,2,3,16,0] ⟨h1,by simp only;omega,by simp only;omega⟩ (by simp)
 rw [hm']
 exact⟨_,_,_,_,rfl,hcd.fit,hsf,hg,(by decide : ∀m∈([1,2,3,16,0]:List Int),m≤16) m hm⟩
theorem b8m (code:List UInt8): ∃F,a28 F code=some true:=by
 refine⟨2000000000,?_⟩
 generalize hF:2000000000=F
 unfold a28
 cases decide ((1048576:Int)<(code.length:Int))
 case true=>rfl
 obtain⟨c,s,q,m,h1,hc,hs,hq,hm⟩:=b1b F code (by omega)
 have hl:=hs.few
 have hst:=hc.stops.1
 rw [i6,h1,a8]
 dsimp only
 rw [b1l F m hq (by omega) (by omega) (by omega) (by omega),a8,b1F F m hq (by omega) hs hc (by omega),a8,beq_self_eq_true,l9,i6,a8p F c s (by omega) (by omega) (by omega),a8]
 cases ho:N0 c s with
 | false=>rfl
 | true=>
 rw [l9,i6,a8]
 by_cases hm1:m<1
 ·rw [b8 hm1];rfl
 rw [c6 hm1,i6]
 obtain⟨k,rfl⟩: ∃k:Nat,m=(k:Int):=⟨m.toNat,by omega⟩
 have hp:b1x c s 3 q (k:Int)=a3k (J0 (I4 c s 3 q)) k:=by
  unfold b1x
  rw [b8 (by omega),b8 (by omega)];rfl
 have hlen:=a0S c s 3 q
 have hls:=a2C (I4 c s 3 q)
 rw [hp,b0A F 16 hq (by omega) (by omega) (by omega) (by omega),c1j,b3s]
 generalize J0 (I4 c s 3 q)=L at *
 have hk:1≤k:=by omega
 have hle:=a9Z (n:=L.length) hk
 have hrun: ∀f:List B0×Int→Option ((List B0×Int)⊕(List B0⊕Bool)),(∀i,i<Y6 k L.length→f (L.take (i*k),(i:Int))=some (.inl (L.take ((i+1)*k),((i+1:Nat):Int))))→
   (∀x,f (x,((Y6 k L.length:Nat):Int))=some (.inr (.inl x)))→v8 f F ([],0)=some (.inl L):=fun f hf h0=>by
  refine a8r (H4 (Post:=fun r:List B0⊕Bool=>r= .inl L) (fun i (st:List B0×Int)=>st=(L.take (i*k),(i:Int))) (Y6 k L.length) (fun i st hi e=>?_) (fun st e=>?_) (Y6 k L.length) 0 ([],0) F (by omega) (by omega) (by rw [Nat.zero_mul,List.take_zero];rfl))
  ·subst e
   exact .inl ⟨_,hf i hi,rfl⟩
  ·subst e
   have hn: ¬Y6 k L.length*k<L.length:=fun h=>Nat.lt_irrefl _ ((a2m hk).2 h)
   refine⟨_,h0 _,?_⟩
   rw [List.take_of_length_le (by omega)]
 rw [hrun _ (fun i hi=>?_) (fun x=>?_)]
 ·simp only [a8,Sum.elim_inl]
  rw [a36 F _ (by omega) (by omega),a8]
 ·have hik:=(a2m hk).1 hi
  have hadd:(i+1)*k=i*k+k:=by rw [Nat.add_mul,Nat.one_mul]
  have hpl:=a8s L k i
  have hat:=a8u hi
  have hli:(L.take (i*k)).length≤16:=by rw [List.length_take];omega
  dsimp only
  rw [b8 (by omega),i9]
  simp only [hat,a8]
  rw [a36 F _ (by omega) (by omega),a8,l9,i6,beq_eq_false_iff_ne.2 (by omega),i6,V5 (by omega) (by omega)]
  have hcut:(cond (decide ((i:Int)<((Y6 k L.length-1:Nat):Int))) (cond (!(((R3 L k i).length:Int)==(k:Int))) (some true) (some (decide ((k:Int)<((R3 L k i).length:Int))))) (some (decide ((k:Int)<((R3 L k i).length:Int)))):Option Bool)=some false:=by
   have e1:decide ((k:Int)<((R3 L k i).length:Int))=false:=c6 (by omega)
   by_cases h:i+1<Y6 k L.length
   ·have:=(a2m hk).1 h
    rw [b8 (by omega),i9,beq_iff_eq.2 (by omega),e1];rfl
   ·rw [c6 (by omega),i6,e1]
  rw [hcut,a8,i6,F1 (by omega),a8,y2 (by omega),hadd]
  have e2:L.take (i*k)++R3 L k i=L.take (i*k+k):=by unfold R3;rw [List.take_add]
  rw [e2]
 ·dsimp only
  rw [c6 (by omega)];rfl
theorem b5F (code:List UInt8): ∃F,a1O F code=some true:=by
 refine⟨2000000000,?_⟩
 generalize hF:2000000000=F
 unfold a1O
 cases decide ((1048576:Int)<(code.length:Int))
 case true=>rfl
 obtain⟨c,s,q,m,h1,hc,hs,hq,hm⟩:=b1b F code (by omega)
 have hl:=hs.few
 have hst:=hc.stops.1
 rw [i6,h1,a8]
 dsimp only
 rw [b1l F m hq (by omega) (by omega) (by omega) (by omega),a8,b1F F m hq (by omega) hs hc (by omega),a8,beq_self_eq_true,l9,i6,a8p F c s (by omega) (by omega) (by omega),a8]
 cases ho:N0 c s with
 | false=>rfl
 | true=>
 rw [l9,i6,a8]
 by_cases hm1:m<1
 ·rw [b8 hm1];rfl
 rw [c6 hm1,i6]
 obtain⟨k,rfl⟩: ∃k:Nat,m=(k:Int):=⟨m.toNat,by omega⟩
 have hp:b1x c s 3 q (k:Int)=a3k (J0 (I4 c s 3 q)) k:=by
  unfold b1x
  rw [b8 (by omega),b8 (by omega)];rfl
 have htq:b56 c s 3 q (k:Int)=(J0 (I4 c s 3 q)).take k:=by
  unfold b56
  rw [b8 (by omega),b8 (by omega)];rfl
 have haft: ∀a,b4p c s 3 q (O4 a) (k:Int)=((J0 (I4 c s 3 q)).filter (O4 a)).take k:=fun a=>by
  rw [b7P (by omega) hm,Int.toNat_natCast]
 have hlen:=a0S c s 3 q
 have hls:=a2C (I4 c s 3 q)
 have hsrt:=(a5D (a3q c s 3 q)).1
 have hia: ∀a,a0e F c s q (k:Int) a=some (((J0 (I4 c s 3 q)).filter (O4 a)).take k):=fun a=>by
  rw [b37 F (k:Int) a hq (by omega) (by omega) (by omega) (by omega),haft]
 rw [hp,b0A F (k:Int) hq (by omega) (by omega) (by omega) (by omega),htq,b3s]
 simp only [hia]
 generalize J0 (I4 c s 3 q)=L at *
 have hk:1≤k:=by omega
 have hle:=a9Z (n:=L.length) hk
 rw [b5l (n:=Y6 k L.length) F (by omega) (fun i hi=>?_) ?_]
 ·simp only [a8,Sum.elim_inl]
  by_cases h0:Y6 k L.length=0
  ·rw [h0];rfl
  ·rw [beq_eq_false_iff_ne.2 (by omega),i6,show u0 (a3k L k) (0:Int)=some (R3 L k 0) from a8u (i:=0) (by omega),a8]
   have e:R3 L k 0=L.take k:=by unfold R3;rw [Nat.zero_mul,List.drop_zero]
   rw [e,a36 F _ (by rw [List.length_take];omega) (by omega),a8]
 ·rw [c6 (by omega)];rfl
 ·have hik:=(a2m hk).1 hi
  have hadd:(i+1)*k=i*k+k:=by rw [Nat.add_mul,Nat.one_mul]
  have hpl:=a8s L k i
  have hat:=a8u hi
  rw [b8 (by omega),i9]
  simp only [hat,a8]
  rw [V5 (by omega) (by omega)]
  have hj:i*k+((R3 L k i).length-1)<L.length:=by omega
  have hlast:u0 (R3 L k i) (((R3 L k i).length-1:Nat):Int)=some L[i*k+((R3 L k i).length-1)]:=by
   rw [n5]
   unfold R3 at *
   rw [List.getElem?_take_of_lt (by omega),List.getElem?_drop,j4 hj]
  rw [hlast,a8,b4l hsrt hj,y2 (by omega)]
  by_cases h:i+1<Y6 k L.length
  ·have h':=(a2m hk).1 h
   have e:(L.drop (i*k+((R3 L k i).length-1)+1)).take k=R3 L k (i+1):=by
    unfold R3
    rw [show i*k+((List.take k (List.drop (i*k) L)).length-1)+1=(i+1)*k by
     have:=hpl
     unfold R3 at this
     omega]
   rw [b8 (by omega),i9,a8u h,a8,e,a36 F _ (by rw [a8s];omega) (by omega),a8,l9,i6,beq_eq_false_iff_ne.2 (by omega),i6,a8,i6]
  ·have hlast': ¬(i+1)*k<L.length:=fun q=>h ((a2m hk).2 q)
   have e:(L.drop (i*k+((R3 L k i).length-1)+1)).take k=[]:=by
    rw [List.drop_of_length_le (by omega),List.take_nil]
   rw [c6 (by omega),i6,beq_iff_eq.2 (by omega),i9,e,a8]
   rfl
end Go.Fk
