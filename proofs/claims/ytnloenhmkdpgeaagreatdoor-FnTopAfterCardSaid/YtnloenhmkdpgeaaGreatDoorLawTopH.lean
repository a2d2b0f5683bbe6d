import Derived.Test.YtnloenhmkdpgeaaGreatDoorLawBase
/-
  c4q in order: the program's and the reference's tests, and pushing one among others. Of no program.
-/
namespace Go.Fk
open Go
def P1 (a b:E3):Bool:=decide (b.Points<a.Points)||(a.Points==b.Points&&decide (a.Doc<b.Doc))
theorem a1z (a b:E3):P1 a b=true↔b.Points<a.Points∨(a.Points=b.Points∧a.Doc<b.Doc):=by simp [P1]
theorem a4w (a:E3):P1 a a=false:=by
 rw [Bool.eq_false_iff];intro h
 rw [a1z] at h;omega
theorem a6r {a b c:E3}(h:P1 a b=true)(h':P1 b c=true):P1 a c=true:=by
 rw [a1z] at *;omega
theorem b62 {a b:E3}(h:P1 a b=false)(h':P1 b a=false):a=b:=by
 have h1: ¬_:=fun q=>by rw [(a1z a b).2 q] at h;cases h
 have h2: ¬_:=fun q=>by rw [(a1z b a).2 q] at h';cases h'
 obtain⟨d,p⟩:=a
 obtain⟨d',p'⟩:=b
 simp only at h1 h2
 have e1:p=p':=by omega
 have e2:d=d':=by omega
 rw [e1,e2]
theorem a8n {a b:E3}(h:P1 a b=true):P1 b a=false:=by
 rw [Bool.eq_false_iff];intro h'
 have:=a6r h h'
 rw [a4w] at this;cases this
theorem b1p {a b:E3}(h:P1 a b=false)(hne:a≠b):P1 b a=true:=by
 cases h':P1 b a with
 | true=>rfl
 | false=>exact absurd (b62 h h') hne
theorem c2o (F:Nat)(a b:E3):a2O F a b=some (P1 a b):=by
 unfold a2O P1
 cases decide (b.Points<a.Points)<;>cases a.Points==b.Points<;>rfl
theorem c1n (F:Nat)(a b:E3):a2I F a b=some (P1 a b):=by
 unfold a2I P1
 cases decide (b.Points<a.Points)<;>cases a.Points==b.Points<;>rfl
def b9S (x y:Int):Int:=if x<y then -1 else if y<x then 1 else 0
theorem c1s (F:Nat)(x y:Int):X4 F x y=some (b9S x y):=by
 unfold X4 T9 b9S
 simp only [beq_self_eq_true,l7,a8,i6]
 by_cases h:x<y
 ·rw [b8 h,if_pos h];rfl
 ·rw [c6 h,if_neg h,i6]
  by_cases h2:y<x
  ·rw [b8 h2,if_pos h2];rfl
  ·rw [c6 h2,if_neg h2];rfl
theorem c6L (F:Nat)(a b:Int):a0L F [a,b]=some (if a=0 then b else a):=by
 unfold a0L
 simp only [s6,List.length_nil,D1]
 have g0:v8 [a,b] ((0:Nat):Int)=some a:=rfl
 have g1:v8 [a,b] ((0+1:Nat):Int)=some b:=rfl
 rw [g0]
 by_cases h:a=0
 ·subst h
  simp only [a8,beq_self_eq_true,l7,i6,Sum.elim_inl]
  rw [g1]
  by_cases hb:b=0
  ·subst hb;rfl
  ·rw [a8,beq_eq_false_iff_ne.2 hb];rfl
 ·rw [a8,beq_eq_false_iff_ne.2 h,if_neg h];rfl
def c16 (a b:E3):Int:=if b9S b.Points a.Points=0 then b9S a.Doc b.Doc else b9S b.Points a.Points
theorem b8s (F:Nat)(a b:E3):I0 F a b=some (c16 a b):=by
 unfold I0
 rw [c1s,a8,c1s,a8,c6L];rfl
theorem b69 (a b:E3):decide (c16 a b<0)=P1 a b:=by
 rw [Bool.eq_iff_iff,decide_eq_true_iff,a1z]
 unfold c16 b9S
 by_cases h1:b.Points<a.Points
 ·simp only [if_pos h1]
  simp [h1]
 ·simp only [if_neg h1]
  by_cases h2:a.Points<b.Points
  ·simp only [if_pos h2]
   simp;omega
  ·simp only [if_neg h2,if_true]
   by_cases h3:a.Doc<b.Doc
   ·simp only [if_pos h3]
    constructor
    ·intro _;omega
    ·intro _;decide
   ·simp only [if_neg h3]
    split<;>omega
theorem c10 (F:Nat)(a b:E3):ltO (fun a b=>I0 F a b) a b=P1 a b:=by
 show decide ((I0 F a b).getD 0<0)=_
 rw [b8s]
 exact b69 a b
def a4E (h:E3):List E3→List E3
 | []=>[h]
 | a::l=>if P1 a h then a::a4E h l else h::a::l
def a47 (l:List E3):Prop:=l.Pairwise fun a b=>P1 a b=true
theorem b0B {h x:E3}: ∀{l:List E3},x∈a4E h l↔x=h∨x∈l
 | []=>by simp [a4E]
 | a::l=>by
  unfold a4E
  split
  ·rw [List.mem_cons,b0B (l:=l),List.mem_cons]
   constructor
   ·rintro (h1 | h1 | h1)<;>simp [h1]
   ·rintro (h1 | h1 | h1)<;>simp [h1]
  ·simp [List.mem_cons]
theorem b14 {h:E3}: ∀{l:List E3},a47 l→h∉l→a47 (a4E h l)
 | [],_,_=>by simp [a4E,a47]
 | a::l,hs,hn=>by
  have hc:=List.pairwise_cons.1 hs
  unfold a4E
  cases hl:P1 a h with
  | true=>
   rw [if_pos rfl]
   refine List.pairwise_cons.2 ⟨fun x hx=>?_,b14 hc.2 (fun hm=>hn (by simp [hm]))⟩
   rcases b0B.1 hx with rfl | hx
   ·exact hl
   ·exact hc.1 x hx
  | false=>
   have hne:a≠h:=fun e=>hn (by simp [e])
   have hha:=b1p hl hne
   rw [if_neg (by simp)]
   refine List.pairwise_cons.2 ⟨fun x hx=>?_,hs⟩
   rcases List.mem_cons.1 hx with rfl | hx
   ·exact hha
   ·exact a6r hha (hc.1 x hx)
theorem a6V (h:E3): ∀l:List E3,(a4E h l).length=l.length+1
 | []=>rfl
 | a::l=>by
  unfold a4E
  split
  ·rw [s6,a6V h l,s6]
  ·rfl
theorem b5r (h:E3): ∀(l:List E3) (m:Nat),(a4E h (l.take m)).take m=(a4E h l).take m
 | [],m=>by simp
 | a::l,0=>by simp
 | a::l,m+1=>by
  rw [List.take_succ_cons]
  unfold a4E
  split
  ·rw [List.take_succ_cons,List.take_succ_cons,b5r h l m]
  ·rw [List.take_succ_cons,List.take_succ_cons]
   congr 1
   cases m with
   | zero=>rfl
   | succ m=>rw [List.take_succ_cons,List.take_succ_cons,List.take_take];simp
def a6e (h:E3):List E3→Nat
 | []=>0
 | a::l=>if P1 a h then a6e h l+1 else 0
theorem b7l (h:E3): ∀l:List E3,a6e h l≤l.length
 | []=>Nat.le_refl _
 | a::l=>by
  unfold a6e
  split
  ·have:=b7l h l;simp only [s6];omega
  ·omega
theorem b6U (h:E3): ∀l:List E3,a4E h l=l.take (a6e h l)++[h]++l.drop (a6e h l)
 | []=>rfl
 | a::l=>by
  unfold a4E a6e
  split
  ·rw [b6U h l];simp
  ·simp
theorem b34 {h:E3}{xs:List E3}{f:Int→Option (Int⊕Int)}(h1: ∀(i:Nat) x,xs[i]? =some x→f (i:Int)=some (if P1 x h then .inl ((i+1:Nat):Int) else .inr (i:Int)))
  (h0:f (xs.length:Int)=some (.inr (xs.length:Int))): ∀(k i F:Nat),i+k=xs.length→k<F→y2 f F (i:Int)=some ((i+a6e h (xs.drop i):Nat):Int)
 | 0,i,F,e,hF=>by
  obtain⟨F,rfl⟩: ∃G,F=G+1:=⟨F-1,by omega⟩
  rw [y2,show i=xs.length by omega,h0,List.drop_eq_nil_of_le (by omega)];rfl
 | k+1,i,F,e,hF=>by
  obtain⟨F,rfl⟩: ∃G,F=G+1:=⟨F-1,by omega⟩
  have hi:i<xs.length:=by omega
  rw [y2,h1 i xs[i] (j8 hi),List.drop_eq_getElem_cons hi,a6e]
  cases P1 xs[i] h with
  | true=>
   simp only [if_true,a8,Sum.elim_inl]
   rw [b34 h1 h0 k (i+1) F (by omega) (by omega)]
   congr 2;omega
  | false=>
   simp
theorem c3n (F:Nat)(l:List E3)(h:E3)(m:Nat)(hl:l.length≤1000)(hF:2000<F):a2P F l h (m:Int)=some ((a4E h l).take m):=by
 unfold a2P
 have hw: ∀f,(∀(i:Nat) x,l[i]? =some x→f (i:Int)=some (if P1 x h then .inl ((i+1:Nat):Int) else .inr (i:Int)))→f (l.length:Int)=some (.inr (l.length:Int))→y2 f F (0:Int)=some ((a6e h l:Nat):Int):=fun f a b=>by
  have:=b34 (f:=f) a b l.length 0 F (by omega) (by omega)
  rwa [List.drop_zero,Nat.zero_add] at this
 rw [hw _ (fun i x hx=>?_) ?_]
 ·have hr:=b7l h l
  have c1:a1G l 0 ((a6e h l:Nat):Int)=some (l.take (a6e h l)):=by
   unfold a1G
   rw [if_pos ⟨by omega,by omega,by omega⟩]
   simp
  have c2:a1G l ((a6e h l:Nat):Int) (l.length:Int)=some (l.drop (a6e h l)):=by
   unfold a1G
   rw [if_pos ⟨by omega,by omega,by omega⟩]
   simp
  have l1:(l.take (a6e h l)).length≤1000:=by simp;omega
  have l2:(l.drop (a6e h l)).length≤1000:=by simp;omega
  have l0:([]:List E3).length=0:=rfl
  rw [a8,a8,c1,a8,H4 (by omega),List.nil_append,a8,H4 (by simp only [l8];omega),a8,c2,a8,
   H4 (by simp only [o0,l8];omega),a8,←b6U h l,a6V]
  by_cases hm:m<l.length+1
  ·rw [b8 (by omega),j4]
   unfold a1G
   rw [if_pos ⟨by omega,by omega,by rw [a6V];omega⟩]
   simp
  ·rw [c6 (by omega),i6,List.take_of_length_le (by rw [a6V];omega)]
 ·rw [c6 (by omega)];rfl
 ·have hi:=(i4.1 hx).1
  rw [b8 (by omega),j4,n8,hx,a8,c2o,a8,a8,y5 (by omega)]
  cases P1 x h<;>rfl
def I2 (l:List E3):List E3:=l.foldl (fun acc h=>a4E h acc) []
theorem b7J: ∀(l acc:List E3),a47 acc→(∀x∈l,x∉acc)→l.Nodup→a47 (l.foldl (fun acc h=>a4E h acc) acc)∧(∀x,x∈l.foldl (fun acc h=>a4E h acc) acc↔x∈acc∨x∈l)∧(l.foldl (fun acc h=>a4E h acc) acc).length=acc.length+l.length
 | [],acc,hs,_,_=>⟨hs,by simp,by simp⟩
 | a::l,acc,hs,hn,hd=>by
  have hdc:=List.nodup_cons.1 hd
  have ih:=b7J l (a4E a acc) (b14 hs (hn a (by simp))) (fun x hx hm=>by
   rcases b0B.1 hm with rfl | hm
   ·exact hdc.1 hx
   ·exact hn x (by simp [hx]) hm) hdc.2
  refine⟨ih.1,fun x=>?_,?_⟩
  ·rw [List.foldl_cons,ih.2.1,b0B,List.mem_cons]
   constructor
   ·rintro ((h | h) | h)<;>simp [h]
   ·rintro (h | h | h)<;>simp [h]
  ·rw [List.foldl_cons,ih.2.2,a6V,s6];omega
theorem b1M: ∀{a b:List E3},a47 a→a47 b→(∀x,x∈a↔x∈b)→a=b
 | [],[],_,_,_=>rfl
 | [],y::b,_,_,h=>by have:=(h y).2 (by simp);cases this
 | x::a,[],_,_,h=>by have:=(h x).1 (by simp);cases this
 | x::a,y::b,ha,hb,h=>by
  have hac:=List.pairwise_cons.1 ha
  have hbc:=List.pairwise_cons.1 hb
  have hxy:x=y:=by
   rcases List.mem_cons.1 ((h x).1 (by simp)) with e | hx
   ·exact e
   ·rcases List.mem_cons.1 ((h y).2 (by simp)) with e | hy
    ·exact e.symm
    ·have h1:=hbc.1 x hx
     have h2:=hac.1 y hy
     rw [a8n h1] at h2;cases h2
  subst hxy
  congr 1
  refine b1M hac.2 hbc.2 fun z=>?_
  constructor
  ·intro hz
   rcases List.mem_cons.1 ((h z).1 (by simp [hz])) with e | hz'
   ·subst e
    have:=hac.1 z hz
    rw [a4w] at this;cases this
   ·exact hz'
  ·intro hz
   rcases List.mem_cons.1 ((h z).2 (by simp [hz])) with e | hz'
   ·subst e
    have:=hbc.1 z hz
    rw [a4w] at this;cases this
   ·exact hz'
theorem a42 {l:List E3}(hd:l.Nodup):a47 (I2 l)∧(∀x,x∈I2 l↔x∈l)∧(I2 l).length=l.length:=by
 have:=b7J l [] List.Pairwise.nil (by simp) hd
 refine⟨this.1,fun x=>?_,by rw [I2,this.2.2];simp⟩
 rw [I2,this.2.1];simp
theorem b8C (F:Nat){l:List E3}(hd:l.Nodup)(hl:l.length≤1000000):a9L (fun a b=>I0 F a b) l=some (I2 l):=by
 have hlt: ∀a b,ltO (fun a b=>I0 F a b) a b=P1 a b:=c10 F
 have hok:a92 (fun a b=>I0 F a b) l=true:=by
  unfold a92
  simp only [hlt,q8,decide_eq_true_iff,List.all_eq_true]
  refine⟨⟨⟨⟨⟨by omega,fun x _ y _=>by rw [b8s];rfl⟩,fun x _=>by rw [a4w];rfl⟩,fun x _ y _ z _=>?_⟩,fun x _ y _ z _=>?_⟩,?_⟩
  ·cases h1:P1 x y with
   | false=>simp
   | true=>
    cases h2:P1 y z with
    | false=>simp
    | true=>rw [a6r h1 h2];rfl
  ·cases h1:P1 x y with
   | true=>simp
   | false=>
    cases h2:P1 y z with
    | true=>simp
    | false=>
     have:P1 x z=false:=by
      rw [Bool.eq_false_iff];intro h3
      have a1: ¬_:=fun q=>by rw [(a1z x y).2 q] at h1;cases h1
      have a2: ¬_:=fun q=>by rw [(a1z y z).2 q] at h2;cases h2
      rw [a1z] at h3
      omega
     rw [this];rfl
  ·refine hd.imp fun {a b} hab=>?_
   cases h:P1 a b with
   | true=>exact .inl rfl
   | false=>exact .inr (b1p h hab)
 unfold a9L
 rw [if_pos hok]
 congr 1
 have hperm:=List.mergeSort_perm l (fun x y=> !ltO (fun a b=>I0 F a b) y x)
 have hs:=a42 hd
 refine b1M ?_ hs.1 (fun x=>by rw [hperm.mem_iff,hs.2.1])
 have hsorted:=List.pairwise_mergeSort (le:=fun x y=> !ltO (fun a b=>I0 F a b) y x) (fun a b c h1 h2=>by
   simp only [hlt,Bool.not_eq_true'] at h1 h2 ⊢
   rw [Bool.eq_false_iff];intro h3
   have a1: ¬_:=fun q=>by rw [(a1z b a).2 q] at h1;cases h1
   have a2: ¬_:=fun q=>by rw [(a1z c b).2 q] at h2;cases h2
   rw [a1z] at h3
   omega) (fun a b=>by
   simp only [hlt]
   cases h:P1 b a with
   | false=>rfl
   | true=>rw [a8n h];rfl) l
 have hnd:(l.mergeSort fun x y=> !ltO (fun a b=>I0 F a b) y x).Nodup:=hperm.nodup_iff.2 hd
 refine(hsorted.and hnd).imp fun {a b} ⟨h1,h2⟩=>?_
 simp only [hlt,Bool.not_eq_true'] at h1
 exact b1p h1 (fun e=>h2 e.symm)
theorem c1N (F:Nat)(l:List E3)(m:Nat)(hd:l.Nodup)(hl:l.length≤1000):a1l F l (m:Int)=some ((I2 l).take m):=by
 have hs:=a42 hd
 unfold a1l
 rw [H4 (by simp only [List.length_nil];omega),List.nil_append,a8,b8C F hd (by omega),a8]
 have hlen:=hs.2.2
 have hsub:a1G (I2 l) 0 (if (m:Int)<((I2 l).length:Int) then (m:Int) else ((I2 l).length:Int))=some ((I2 l).take m):=by
  unfold a1G
  by_cases hm:(m:Int)<((I2 l).length:Int)
  ·rw [if_pos hm,if_pos ⟨by omega,by omega,by omega⟩];simp
  ·rw [if_neg hm,if_pos ⟨by omega,by omega,by omega⟩,List.take_of_length_le (i:=m) (by omega)];simp
 rw [hsub,a8,H4 (by simp only [List.length_nil,List.length_take];omega)]
 rfl
end Go.Fk
namespace Go.Fk
open Go
structure c4q (l:List E3):Prop where
 rng: ∀h∈l,(1≤h.Doc∧h.Doc≤9999)∧1≤h.Points
 sorted:a47 l
 docs:l.Pairwise fun a b=>a.Doc≠b.Doc
 few:l.length≤16
end Go.Fk
namespace Go.Fk
open Go
theorem b8B (acc:List E3)(h:E3):I2 (acc++[h])=a4E h (I2 acc):=by
 unfold I2
 rw [List.foldl_append];rfl
theorem b6N: ∀(l acc:List E3),(l.foldl (fun acc h=>a4E h acc) acc).length=acc.length+l.length
 | [],acc=>by simp
 | a::l,acc=>by rw [List.foldl_cons,b6N l,a6V,s6];omega
theorem a4e (l:List E3):(I2 l).length=l.length:=by
 unfold I2
 rw [b6N];simp
end Go.Fk
