import Derived.Test.YtnloenhmkdpgeaaGreatDoorLawBase
/-
  c4q in order: the program's and the reference's tests, and pushing one among others. Of no program.
-/
namespace Go.Fk
open Go
def P1 (a b:E3):Bool:=decide (b.Points<a.Points)||(a.Points==b.Points&&decide (a.Doc<b.Doc))
theorem a1z (a b:E3):P1 a b=true↔b.Points<a.Points∨(a.Points=b.Points∧a.Doc<b.Doc):=by simp [P1]
theorem a4w (a:E3):P1 a a=false:=by
 rw [Bool.eq_false_iff];intro h
 rw [a1z] at h;omega
theorem a6r {a b c:E3}(h:P1 a b=true)(h':P1 b c=true):P1 a c=true:=by
 rw [a1z] at *;omega
theorem b62 {a b:E3}(h:P1 a b=false)(h':P1 b a=false):a=b:=by
 have h1: ¬_:=fun q=>by rw [(a1z a b).2 q] at h;cases h
 have h2: ¬_:=fun q=>by rw [(a1z b a).2 q] at h';cases h'
 obtain⟨d,p⟩:=a
 obtain⟨d',p'⟩:=b
 simp only at h1 h2
 have e1:p=p':=by omega
 have e2:d=d':=by omega
 rw [e1,e2]
theorem a8n {a b:E3}(h:P1 a b=true):P1 b a=false:=by
 rw [Bool.eq_false_iff];intro h'
 have:=a6r h h'
 rw [a4w] at this;cases this
theorem b1p {a b:E3}(h:P1 a b=false)(hne:a≠b):P1 b a=true:=by
 cases h':P1 b a with
 | true=>rfl
 | false=>exact absurd (b62 h h') hne
theorem c2o (F:Nat)(a b:E3):a2O F a b=some (P1 a b):=by
 unfold a2O P1
 cases decide (b.Points<a.Points)<;>cases a.Points==b.Points<;>rfl
def b9S (x y:Int):Int:=if x<y then -1 else if y<x then 1 else 0
theorem c1s (F:Nat)(x y:Int):X4 F x y=some (b9S x y):=by
 unfold X4 T9 b9S
 simp only [beq_self_eq_true,l7,a8,i6]
 by_cases h:x<y
 ·rw [b8 h,if_pos h];rfl
 ·rw [c6 h,if_neg h,i6]
  by_cases h2:y<x
  ·rw [b8 h2,if_pos h2];rfl
  ·rw [c6 h2,if_neg h2];rfl
theorem c6L (F:Nat)(a b:Int):a0L F [a,b]=some (if a=0 then b else a):=by
 unfold a0L
 simp only [s6,List.length_nil,D1]
 have g0:v8 [a,b] ((0:Nat):Int)=some a:=rfl
 have g1:v8 [a,b] ((0+1:Nat):Int)=some b:=rfl
 rw [g0]
 by_cases h:a=0
 ·subst h
  simp only [a8,beq_self_eq_true,l7,i6,Sum.elim_inl]
  rw [g1]
  by_cases hb:b=0
  ·subst hb;rfl
  ·rw [a8,beq_eq_false_iff_ne.2 hb];rfl
 ·rw [a8,beq_eq_false_iff_ne.2 h,if_neg h];rfl
def c16 (a b:E3):Int:=if b9S b.Points a.Points=0 then b9S a.Doc b.Doc else b9S b.Points a.Points
theorem b8s (F:Nat)(a b:E3):I0 F a b=some (c16 a b):=by
 unfold I0
 rw [c1s,a8,c1s,a8,c6L];rfl
theorem b69 (a b:E3):decide (c16 a b<0)=P1 a b:=by
 rw [Bool.eq_iff_iff,decide_eq_true_iff,a1z]
 unfold c16 b9S
 by_cases h1:b.Points<a.Points
 ·simp only [if_pos h1]
  simp [h1]
 ·simp only [if_neg h1]
  by_cases h2:a.Points<b.Points
  ·simp only [if_pos h2]
   simp;omega
  ·simp only [if_neg h2,if_true]
   by_cases h3:a.Doc<b.Doc
   ·simp only [if_pos h3]
    constructor
    ·intro _;omega
    ·intro _;decide
   ·simp only [if_neg h3]
    split<;>omega
theorem b7a (a b:E3):decide (0≤c16 a b)= !P1 a b:=by
 rw [←b69]
 by_cases h:c16 a b<0
 ·rw [b8 h,c6 (by omega)];rfl
 ·rw [c6 h,b8 (by omega)];rfl
theorem c10 (F:Nat)(a b:E3):ltO (fun a b=>I0 F a b) a b=P1 a b:=by
 show decide ((I0 F a b).getD 0<0)=_
 rw [b8s]
 exact b69 a b
def a4E (h:E3):List E3→List E3
 | []=>[h]
 | a::l=>if P1 a h then a::a4E h l else h::a::l
def a47 (l:List E3):Prop:=l.Pairwise fun a b=>P1 a b=true
theorem b0B {h x:E3}: ∀{l:List E3},x∈a4E h l↔x=h∨x∈l
 | []=>by simp [a4E]
 | a::l=>by
  unfold a4E
  split
  ·rw [List.mem_cons,b0B (l:=l),List.mem_cons]
   constructor
   ·rintro (h1 | h1 | h1)<;>simp [h1]
   ·rintro (h1 | h1 | h1)<;>simp [h1]
  ·simp [List.mem_cons]
theorem b14 {h:E3}: ∀{l:List E3},a47 l→h∉l→a47 (a4E h l)
 | [],_,_=>by simp [a4E,a47]
 | a::l,hs,hn=>by
  have hc:=List.pairwise_cons.1 hs
  unfold a4E
  cases hl:P1 a h with
  | true=>
   rw [if_pos rfl]
   refine List.pairwise_cons.2 ⟨fun x hx=>?_,b14 hc.2 (fun hm=>hn (by simp [hm]))⟩
   rcases b0B.1 hx with rfl | hx
   ·exact hl
   ·exact hc.1 x hx
  | false=>
   have hne:a≠h:=fun e=>hn (by simp [e])
   have hha:=b1p hl hne
   rw [if_neg (by simp)]
   refine List.pairwise_cons.2 ⟨fun x hx=>?_,hs⟩
   rcases List.mem_cons.1 hx with rfl | hx
   ·exact hha
   ·exact a6r hha (hc.1 x hx)
theorem a6V (h:E3): ∀l:List E3,(a4E h l).length=l.length+1
 | []=>rfl
 | a::l=>by
  unfold a4E
  split
  ·rw [s6,a6V h l,s6]
  ·rfl
theorem b5r (h:E3): ∀(l:List E3) (m:Nat),(a4E h (l.take m)).take m=(a4E h l).take m
 | [],m=>by simp
 | a::l,0=>by simp
 | a::l,m+1=>by
  rw [List.take_succ_cons]
  unfold a4E
  split
  ·rw [List.take_succ_cons,List.take_succ_cons,b5r h l m]
  ·rw [List.take_succ_cons,List.take_succ_cons]
   congr 1
   cases m with
   | zero=>rfl
   | succ m=>rw [List.take_succ_cons,List.take_succ_cons,List.take_take];simp
def a6e (h:E3):List E3→Nat
 | []=>0
 | a::l=>if P1 a h then a6e h l+1 else 0
theorem b7l (h:E3): ∀l:List E3,a6e h l≤l.length
 | []=>Nat.le_refl _
 | a::l=>by
  unfold a6e
  split
  ·have:=b7l h l;simp only [s6];omega
  ·omega
theorem b6U (h:E3): ∀l:List E3,a4E h l=l.take (a6e h l)++[h]++l.drop (a6e h l)
 | []=>rfl
 | a::l=>by
  unfold a4E a6e
  split
  ·rw [b6U h l];simp
  ·simp
theorem b34 {h:E3}{xs:List E3}{f:Int→Option (Int⊕Int)}(h1: ∀(i:Nat) x,xs[i]? =some x→f (i:Int)=some (if P1 x h then .inl ((i+1:Nat):Int) else .inr (i:Int)))
  (h0:f (xs.length:Int)=some (.inr (xs.length:Int))): ∀(k i F:Nat),i+k=xs.length→k<F→y2 f F (i:Int)=some ((i+a6e h (xs.drop i):Nat):Int)
 | 0,i,F,e,hF=>by
  obtain⟨F,rfl⟩: ∃G,F=G+1:=⟨F-1,by omega⟩
  rw [y2,show i=xs.length by omega,h0,List.drop_eq_nil_of_le (by omega)];rfl
 | k+1,i,F,e,hF=>by
  obtain⟨F,rfl⟩: ∃G,F=G+1:=⟨F-1,by omega⟩
  have hi:i<xs.length:=by omega
  rw [y2,h1 i xs[i] (j8 hi),List.drop_eq_getElem_cons hi,a6e]
  cases P1 xs[i] h with
  | true=>
   simp only [if_true,a8,Sum.elim_inl]
   rw [b34 h1 h0 k (i+1) F (by omega) (by omega)]
   congr 2;omega
  | false=>
   simp
theorem c3n (F:Nat)(l:List E3)(h:E3)(m:Nat)(hl:l.length≤1000)(hF:2000<F):a2P F l h (m:Int)=some ((a4E h l).take m):=by
 unfold a2P
 have hw: ∀f,(∀(i:Nat) x,l[i]? =some x→f (i:Int)=some (if P1 x h then .inl ((i+1:Nat):Int) else .inr (i:Int)))→f (l.length:Int)=some (.inr (l.length:Int))→y2 f F (0:Int)=some ((a6e h l:Nat):Int):=fun f a b=>by
  have:=b34 (f:=f) a b l.length 0 F (by omega) (by omega)
  rwa [List.drop_zero,Nat.zero_add] at this
 rw [hw _ (fun i x hx=>?_) ?_]
 ·have hr:=b7l h l
  have c1:a1G l 0 ((a6e h l:Nat):Int)=some (l.take (a6e h l)):=by
   unfold a1G
   rw [if_pos ⟨by omega,by omega,by omega⟩]
   simp
  have c2:a1G l ((a6e h l:Nat):Int) (l.length:Int)=some (l.drop (a6e h l)):=by
   unfold a1G
   rw [if_pos ⟨by omega,by omega,by omega⟩]
   simp
  have l1:(l.take (a6e h l)).length≤1000:=by simp;omega
  have l2:(l.drop (a6e h l)).length≤1000:=by simp;omega
  have l0:([]:List E3).length=0:=rfl
  rw [a8,a8,c1,a8,H4 (by omega),List.nil_append,a8,H4 (by simp only [l8];omega),a8,c2,a8,
   H4 (by simp only [o0,l8];omega),a8,←b6U h l,a6V]
  by_cases hm:m<l.length+1
  ·rw [b8 (by omega),j4]
   unfold a1G
   rw [if_pos ⟨by omega,by omega,by rw [a6V];omega⟩]
   simp
  ·rw [c6 (by omega),i6,List.take_of_length_le (by rw [a6V];omega)]
 ·rw [c6 (by omega)];rfl
 ·have hi:=(i4.1 hx).1
  rw [b8 (by omega),j4,n8,hx,a8,c2o,a8,a8,y5 (by omega)]
  cases P1 x h<;>rfl
def I2 (l:List E3):List E3:=l.foldl (fun acc h=>a4E h acc) []
theorem b7J: ∀(l acc:List E3),a47 acc→(∀x∈l,x∉acc)→l.Nodup→a47 (l.foldl (fun acc h=>a4E h acc) acc)∧(∀x,x∈l.foldl (fun acc h=>a4E h acc) acc↔x∈acc∨x∈l)∧(l.foldl (fun acc h=>a4E h acc) acc).length=acc.length+l.length
 | [],acc,hs,_,_=>⟨hs,by simp,by simp⟩
 | a::l,acc,hs,hn,hd=>by
  have hdc:=List.nodup_cons.1 hd
  have ih:=b7J l (a4E a acc) (b14 hs (hn a (by simp))) (fun x hx hm=>by
   rcases b0B.1 hm with rfl | hm
   ·exact hdc.1 hx
   ·exact hn x (by simp [hx]) hm) hdc.2
  refine⟨ih.1,fun x=>?_,?_⟩
  ·rw [List.foldl_cons,ih.2.1,b0B,List.mem_cons]
   constructor
   ·rintro ((h | h) | h)<;>simp [h]
   ·rintro (h | h | h)<;>simp [h]
  ·rw [List.foldl_cons,ih.2.2,a6V,s6];omega
theorem b1M: ∀{a b:List E3},a47 a→a47 b→(∀x,x∈a↔x∈b)→a=b
 | [],[],_,_,_=>rfl
 | [],y::b,_,_,h=>by have:=(h y).2 (by simp);cases this
 | x::a,[],_,_,h=>by have:=(h x).1 (by simp);cases this
 | x::a,y::b,ha,hb,h=>by
  have hac:=List.pairwise_cons.1 ha
  have hbc:=List.pairwise_cons.1 hb
  have hxy:x=y:=by
   rcases List.mem_cons.1 ((h x).1 (by simp)) with e | hx
   ·exact e
   ·rcases List.mem_cons.1 ((h y).2 (by simp)) with e | hy
    ·exact e.symm
    ·have h1:=hbc.1 x hx
     have h2:=hac.1 y hy
     rw [a8n h1] at h2;cases h2
  subst hxy
  congr 1
  refine b1M hac.2 hbc.2 fun z=>?_
  constructor
  ·intro hz
   rcases List.mem_cons.1 ((h z).1 (by simp [hz])) with e | hz'
   ·subst e
    have:=hac.1 z hz
    rw [a4w] at this;cases this
   ·exact hz'
  ·intro hz
   rcases List.mem_cons.1 ((h z).2 (by simp [hz])) with e | hz'
   ·subst e
    have:=hbc.1 z hz
    rw [a4w] at this;cases this
   ·exact hz'
theorem a42 {l:List E3}(hd:l.Nodup):a47 (I2 l)∧(∀x,x∈I2 l↔x∈l)∧(I2 l).length=l.length:=by
 have:=b7J l [] List.Pairwise.nil (by simp) hd
 refine⟨this.1,fun x=>?_,by rw [I2,this.2.2];simp⟩
 rw [I2,this.2.1];simp
theorem b8C (F:Nat){l:List E3}(hd:l.Nodup)(hl:l.length≤1000000):a9L (fun a b=>I0 F a b) l=some (I2 l):=by
 have hlt: ∀a b,ltO (fun a b=>I0 F a b) a b=P1 a b:=c10 F
 have hok:a92 (fun a b=>I0 F a b) l=true:=by
  unfold a92
  simp only [hlt,q8,decide_eq_true_iff,List.all_eq_true]
  refine⟨⟨⟨⟨⟨by omega,fun x _ y _=>by rw [b8s];rfl⟩,fun x _=>by rw [a4w];rfl⟩,fun x _ y _ z _=>?_⟩,fun x _ y _ z _=>?_⟩,?_⟩
  ·cases h1:P1 x y with
   | false=>simp
   | true=>
    cases h2:P1 y z with
    | false=>simp
    | true=>rw [a6r h1 h2];rfl
  ·cases h1:P1 x y with
   | true=>simp
   | false=>
    cases h2:P1 y z with
    | true=>simp
    | false=>
     have:P1 x z=false:=by
      rw [Bool.eq_false_iff];intro h3
      have a1: ¬_:=fun q=>by rw [(a1z x y).2 q] at h1;cases h1
      have a2: ¬_:=fun q=>by rw [(a1z y z).2 q] at h2;cases h2
      rw [a1z] at h3
      omega
     rw [this];rfl
  ·refine hd.imp fun {a b} hab=>?_
   cases h:P1 a b with
   | true=>exact .inl rfl
   | false=>exact .inr (b1p h hab)
 unfold a9L
 rw [if_pos hok]
 congr 1
 have hperm:=List.mergeSort_perm l (fun x y=> !ltO (fun a b=>I0 F a b) y x)
 have hs:=a42 hd
 refine b1M ?_ hs.1 (fun x=>by rw [hperm.mem_iff,hs.2.1])
 have hsorted:=List.pairwise_mergeSort (le:=fun x y=> !ltO (fun a b=>I0 F a b) y x) (fun a b c h1 h2=>by
   simp only [hlt,Bool.not_eq_true'] at h1 h2 ⊢
   rw [Bool.eq_false_iff];intro h3
   have a1: ¬_:=fun q=>by rw [(a1z b a).2 q] at h1;cases h1
   have a2: ¬_:=fun q=>by rw [(a1z c b).2 q] at h2;cases h2
   rw [a1z] at h3
   omega) (fun a b=>by
   simp only [hlt]
   cases h:P1 b a with
   | false=>rfl
   | true=>rw [a8n h];rfl) l
 have hnd:(l.mergeSort fun x y=> !ltO (fun a b=>I0 F a b) y x).Nodup:=hperm.nodup_iff.2 hd
 refine(hsorted.and hnd).imp fun {a b} ⟨h1,h2⟩=>?_
 simp only [hlt,Bool.not_eq_true'] at h1
 exact b1p h1 (fun e=>h2 e.symm)
theorem c1N (F:Nat)(l:List E3)(m:Nat)(hd:l.Nodup)(hl:l.length≤1000):a1l F l (m:Int)=some ((I2 l).take m):=by
 have hs:=a42 hd
 unfold a1l
 rw [H4 (by simp only [List.length_nil];omega),List.nil_append,a8,b8C F hd (by omega),a8]
 have hlen:=hs.2.2
 have hsub:a1G (I2 l) 0 (if (m:Int)<((I2 l).length:Int) then (m:Int) else ((I2 l).length:Int))=some ((I2 l).take m):=by
  unfold a1G
  by_cases hm:(m:Int)<((I2 l).length:Int)
  ·rw [if_pos hm,if_pos ⟨by omega,by omega,by omega⟩];simp
  ·rw [if_neg hm,if_pos ⟨by omega,by omega,by omega⟩,List.take_of_length_le (i:=m) (by omega)];simp
 rw [hsub,a8,H4 (by simp only [List.length_nil,List.length_take];omega)]
 rfl
end Go.Fk
namespace Go.Fk
open Go
def b3n (l:List E3)(id:Int):Bool:=l.any fun h=>h.Doc==id
theorem b98 (F:Nat)(l:List E3)(id:Int):a3G F l id=some (b3n l id):=by
 unfold a3G I8 L5 b3n
 have key: ∀(f:Nat→Unit→Option (Unit⊕Int)),(∀i x,l[i]? =some x→f i ()=some (if x.Doc==id then .inr ((i:Nat):Int) else .inl ()))→∀k i,i+k=l.length→
   ∃r,D1 f k i ()=some r∧(match r with | .inl _=>(l.drop i).any (fun h=>h.Doc==id)=false | .inr z=>0≤z∧(l.drop i).any (fun h=>h.Doc==id)=true):=by
  intro f hf k
  induction k with
  | zero=>
   intro i e
   refine⟨.inl (),rfl,?_⟩
   rw [List.drop_eq_nil_of_le (by omega)];rfl
  | succ k ih=>
   intro i e
   have hi:i<l.length:=by omega
   rw [D1,hf i l[i] (j8 hi),List.drop_eq_getElem_cons hi,List.any_cons]
   cases h:l[i].Doc==id with
   | true=>exact⟨.inr (i:Int),rfl,by simp⟩
   | false=>
    obtain⟨r,h1,h2⟩:=ih (i+1) (by omega)
    refine⟨r,?_,?_⟩
    ·simpa using h1
    ·simpa using h2
 obtain⟨r,h1,h2⟩:=key (fun (i:Nat) (_:Unit)=>Option.bind (v8 l (i:Int)) fun x=>Option.bind (a14 F x id) fun b=>cond b (some (.inr (i:Int))) (some (.inl ()))) (fun i x hx=>by
  show Option.bind _ _=_
  rw [n8,hx,a8]
  unfold a14
  rw [a8]
  cases x.Doc==id<;>rfl) l.length 0 (by omega)
 rw [List.drop_zero] at h2
 rw [h1]
 cases r with
 | inl u=>
  simp only at h2
  rw [h2];rfl
 | inr z=>
  simp only at h2
  rw [h2.2]
  simp [h2.1]
def b8b (l:List E3)(q:E3×Nat):Bool:=
 (decide (1≤q.1.Doc)&&decide (q.1.Doc≤9999))&&(!decide (q.1.Points<1)&&(!b3n (l.take q.2) q.1.Doc&&(decide (q.2=0)||((l[q.2-1]?).elim true fun g=>P1 g q.1))))
def b85 (l:List E3):Bool:=l.zipIdx.all (b8b l)&&decide ((l.length:Int)≤16)
theorem b5o {α:Type}{l:List α}{i:Nat}(h:i≤l.length):a1G l 0 (i:Int)=some (l.take i):=by
 unfold a1G
 rw [if_pos ⟨by omega,by omega,by omega⟩]
 simp
theorem c1S (F:Nat)(l:List E3)(hl:l.length≤1000000):a3F F l=some (b85 l):=by
 unfold a3F b85
 have hz:l.length=l.zipIdx.length:=by simp
 rw [a0s (p:=b8b l) (xs:=l.zipIdx) (fun i q hq=>?_) l.length 0 (by omega),List.drop_zero]
 ·cases l.zipIdx.all (b8b l)<;>rfl
 ·obtain⟨hx,hi⟩:=b4w hq
  have hlt:=(i4.1 hx).1
  rw [n8,hx,a8,O8,a8]
  unfold b8b
  rw [hi]
  cases (decide (1≤q.1.Doc)&&decide (q.1.Doc≤9999)) with
  | false=>rfl
  | true=>
   rw [l7,i6]
   cases decide (q.1.Points<1) with
   | true=>rfl
   | false=>
    rw [i6,b5o (by omega),a8,b98,a8]
    cases b3n (l.take i) q.1.Doc with
    | true=>rfl
    | false=>
     rw [i6]
     by_cases h0:i=0
     ·subst h0;rfl
     ·rw [b8 (show (0:Int)<(i:Int) by omega),j4,a0y (by omega) (by omega),n8,j8 (show i-1<l.length by omega),a8,b8s,a8,b7a,c6 h0]
      simp only [Option.elim_some,Bool.false_or,a8]
      cases P1 l[i-1] q.1<;>rfl
structure c4q (l:List E3):Prop where
 rng: ∀h∈l,(1≤h.Doc∧h.Doc≤9999)∧1≤h.Points
 sorted:a47 l
 docs:l.Pairwise fun a b=>a.Doc≠b.Doc
 few:l.length≤16
theorem c1R (l:List E3):b85 l=true↔c4q l:=by
 unfold b85
 rw [q8,decide_eq_true_iff,List.all_eq_true]
 constructor
 ·rintro⟨h,hl⟩
  have hat: ∀i,(hi:i<l.length)→b8b l (l[i],i)=true:=fun i hi=>h (l[i],i) (by
   rw [List.mem_iff_getElem?]
   exact⟨i,by rw [List.getElem?_zipIdx,j8 hi];simp⟩)
  have hat': ∀i,(hi:i<l.length)→(1≤l[i].Doc∧l[i].Doc≤9999)∧1≤l[i].Points∧b3n (l.take i) l[i].Doc=false∧(i=0∨((l[i-1]?).elim true fun g=>P1 g l[i])=true):=fun i hi=>by
   have:=hat i hi
   unfold b8b at this
   simp only [q8,Bool.or_eq_true,decide_eq_true_iff,Bool.not_eq_true',decide_eq_false_iff_not] at this
   exact⟨this.1,by omega,this.2.2.1,this.2.2.2⟩
  have hadj: ∀l:List E3,(∀i,(hi:i+1<l.length)→P1 l[i] l[i+1]=true)→a47 l:=by
   intro l
   induction l with
   | nil=>intro _;exact List.Pairwise.nil
   | cons a l ih=>
    intro hl
    have ih':=ih (fun i hi=>by have:=hl (i+1) (by simp only [s6];omega);simpa using this)
    refine List.pairwise_cons.2 ⟨fun c hc=>?_,ih'⟩
    cases l with
    | nil=>cases hc
    | cons b l=>
     have hab:P1 a b=true:=hl 0 (by simp)
     rcases List.mem_cons.1 hc with rfl | hc
     ·exact hab
     ·exact a6r hab ((List.pairwise_cons.1 ih').1 c hc)
  refine⟨fun x hx=>?_,hadj l fun i hi=>?_,?_,by omega⟩
  ·obtain⟨i,hi,rfl⟩:=List.mem_iff_getElem.1 hx
   have:=hat' i hi
   exact⟨this.1,this.2.1⟩
  ·have:=(hat' (i+1) hi).2.2.2
   rw [Nat.add_sub_cancel,j8 (show i<l.length by omega)] at this
   exact this.resolve_left (by omega)
  ·rw [List.pairwise_iff_getElem]
   intro i j hi hj hij e
   have:=(hat' j hj).2.2.1
   unfold b3n at this
   rw [List.any_eq_false] at this
   have hm:l[i]∈l.take j:=by
    rw [List.mem_iff_getElem?]
    exact⟨i,by rw [List.getElem?_take,if_pos hij,j8 hi]⟩
   have:=this _ hm
   rw [e] at this
   simp at this
 ·rintro⟨h1,h2,h3,h4⟩
  refine⟨fun q hq=>?_,by omega⟩
  obtain⟨i,hi⟩:=List.mem_iff_getElem?.1 hq
  obtain⟨hx,hqi⟩:=b4w hi
  have hlt:=(i4.1 hx).1
  have he:=(i4.1 hx).2
  obtain⟨r1,r2⟩:=h1 q.1 (n5 hx)
  unfold b8b
  rw [hqi]
  simp only [q8,Bool.or_eq_true,decide_eq_true_iff,Bool.not_eq_true',decide_eq_false_iff_not]
  refine⟨r1,by omega,?_,?_⟩
  ·unfold b3n
   rw [List.any_eq_false]
   intro y hy
   obtain⟨k,hk⟩:=List.mem_iff_getElem?.1 hy
   have hk1:=(i4.1 hk).1
   rw [List.length_take] at hk1
   rw [List.getElem?_take,if_pos (by omega)] at hk
   have hk2:=(i4.1 hk).2
   have:=List.pairwise_iff_getElem.1 h3 k i (by omega) hlt (by omega)
   rw [hk2,he] at this
   simpa using this
  ·by_cases h0:i=0
   ·exact .inl h0
   ·refine .inr ?_
    rw [j8 (show i-1<l.length by omega)]
    have:=List.pairwise_iff_getElem.1 h2 (i-1) i (by omega) hlt (by omega)
    rw [he] at this
    exact this
theorem c8i {l:List E3}(h:l.Pairwise fun a b=>a.Doc≠b.Doc):l.Nodup:=h.imp fun {a b} hab e=>hab (by rw [e])
end Go.Fk
namespace Go.Fk
open Go
theorem b8B (acc:List E3)(h:E3):I2 (acc++[h])=a4E h (I2 acc):=by
 unfold I2
 rw [List.foldl_append];rfl
end Go.Fk
