import Derived.Test.YtepcfgnicnibnaaGreatDoorLawBase
/-
  c63 in order: the program's and the reference's tests, and pushing one among others. Of no program.
-/
namespace Go.Fk
open Go
def O4 (a b:B0):Bool:=decide (b.Points<a.Points)||(a.Points==b.Points&&decide (a.Doc<b.Doc))
theorem a0T (a b:B0):O4 a b=true↔b.Points<a.Points∨(a.Points=b.Points∧a.Doc<b.Doc):=by simp [O4]
theorem a3M (a:B0):O4 a a=false:=by
 rw [Bool.eq_false_iff];intro h
 rw [a0T] at h;omega
theorem a7K {a b c:B0}(h:O4 a b=true)(h':O4 b c=true):O4 a c=true:=by
 rw [a0T] at *;omega
theorem b6T {a b:B0}(h:O4 a b=false)(h':O4 b a=false):a=b:=by
 have h1: ¬_:=fun q=>by rw [(a0T a b).2 q] at h;cases h
 have h2: ¬_:=fun q=>by rw [(a0T b a).2 q] at h';cases h'
 obtain⟨d,p⟩:=a
 obtain⟨d',p'⟩:=b
 simp only at h1 h2
 have e1:p=p':=by omega
 have e2:d=d':=by omega
 rw [e1,e2]
theorem a7J {a b:B0}(h:O4 a b=true):O4 b a=false:=by
 rw [Bool.eq_false_iff];intro h'
 have:=a7K h h'
 rw [a3M] at this;cases this
theorem b0C {a b:B0}(h:O4 a b=false)(hne:a≠b):O4 b a=true:=by
 cases h':O4 b a with
 | true=>rfl
 | false=>exact absurd (b6T h h') hne
theorem c2D (F:Nat)(a b:B0):a17 F a b=some (O4 a b):=by
 unfold a17 O4
 cases decide (b.Points<a.Points)<;>cases a.Points==b.Points<;>rfl
def b9Y (x y:Int):Int:=if x<y then -1 else if y<x then 1 else 0
theorem c1p (F:Nat)(x y:Int):J9 F x y=some (b9Y x y):=by
 unfold J9 O6 b9Y
 simp only [beq_self_eq_true,l9,a8,i6]
 by_cases h:x<y
 ·rw [b8 h,if_pos h];rfl
 ·rw [c6 h,if_neg h,i6]
  by_cases h2:y<x
  ·rw [b8 h2,if_pos h2];rfl
  ·rw [c6 h2,if_neg h2];rfl
theorem c6X (F:Nat)(a b:Int):Q7 F [a,b]=some (if a=0 then b else a):=by
 unfold Q7
 simp only [r4,List.length_nil,C7]
 have g0:u0 [a,b] ((0:Nat):Int)=some a:=rfl
 have g1:u0 [a,b] ((0+1:Nat):Int)=some b:=rfl
 rw [g0]
 by_cases h:a=0
 ·subst h
  simp only [a8,beq_self_eq_true,l9,i6,Sum.elim_inl]
  rw [g1]
  by_cases hb:b=0
  ·subst hb;rfl
  ·rw [a8,beq_eq_false_iff_ne.2 hb];rfl
 ·rw [a8,beq_eq_false_iff_ne.2 h,if_neg h];rfl
def c5k (a b:B0):Int:=if b9Y b.Points a.Points=0 then b9Y a.Doc b.Doc else b9Y b.Points a.Points
theorem b8r (F:Nat)(a b:B0):H1 F a b=some (c5k a b):=by
 unfold H1
 rw [c1p,a8,c1p,a8,c6X];rfl
theorem b6Z (a b:B0):decide (c5k a b<0)=O4 a b:=by
 rw [Bool.eq_iff_iff,decide_eq_true_iff,a0T]
 unfold c5k b9Y
 by_cases h1:b.Points<a.Points
 ·simp only [if_pos h1]
  simp [h1]
 ·simp only [if_neg h1]
  by_cases h2:a.Points<b.Points
  ·simp only [if_pos h2]
   simp;omega
  ·simp only [if_neg h2,if_true]
   by_cases h3:a.Doc<b.Doc
   ·simp only [if_pos h3]
    constructor
    ·intro _;omega
    ·intro _;decide
   ·simp only [if_neg h3]
    split<;>omega
theorem c15 (F:Nat)(a b:B0):ltO (fun a b=>H1 F a b) a b=O4 a b:=by
 show decide ((H1 F a b).getD 0<0)=_
 rw [b8r]
 exact b6Z a b
def a5I (h:B0):List B0→List B0
 | []=>[h]
 | a::l=>if O4 a h then a::a5I h l else h::a::l
def a3a (l:List B0):Prop:=l.Pairwise fun a b=>O4 a b=true
theorem a9O {h x:B0}: ∀{l:List B0},x∈a5I h l↔x=h∨x∈l
 | []=>by simp [a5I]
 | a::l=>by
  unfold a5I
  split
  ·rw [List.mem_cons,a9O (l:=l),List.mem_cons]
   constructor
   ·rintro (h1 | h1 | h1)<;>simp [h1]
   ·rintro (h1 | h1 | h1)<;>simp [h1]
  ·simp [List.mem_cons]
theorem b1o {h:B0}: ∀{l:List B0},a3a l→h∉l→a3a (a5I h l)
 | [],_,_=>by simp [a5I,a3a]
 | a::l,hs,hn=>by
  have hc:=List.pairwise_cons.1 hs
  unfold a5I
  cases hl:O4 a h with
  | true=>
   rw [if_pos rfl]
   refine List.pairwise_cons.2 ⟨fun x hx=>?_,b1o hc.2 (fun hm=>hn (by simp [hm]))⟩
   rcases a9O.1 hx with rfl | hx
   ·exact hl
   ·exact hc.1 x hx
  | false=>
   have hne:a≠h:=fun e=>hn (by simp [e])
   have hha:=b0C hl hne
   rw [if_neg (by simp)]
   refine List.pairwise_cons.2 ⟨fun x hx=>?_,hs⟩
   rcases List.mem_cons.1 hx with rfl | hx
   ·exact hha
   ·exact a7K hha (hc.1 x hx)
theorem a6u (h:B0): ∀l:List B0,(a5I h l).length=l.length+1
 | []=>rfl
 | a::l=>by
  unfold a5I
  split
  ·rw [r4,a6u h l,r4]
  ·rfl
theorem b03 (h:B0): ∀(l:List B0) (m:Nat),(a5I h (l.take m)).take m=(a5I h l).take m
 | [],m=>by simp
 | a::l,0=>by simp
 | a::l,m+1=>by
  rw [List.take_succ_cons]
  unfold a5I
  split
  ·rw [List.take_succ_cons,List.take_succ_cons,b03 h l m]
  ·rw [List.take_succ_cons,List.take_succ_cons]
   congr 1
   cases m with
   | zero=>rfl
   | succ m=>rw [List.take_succ_cons,List.take_succ_cons,List.take_take];simp
def a5B (h:B0):List B0→Nat
 | []=>0
 | a::l=>if O4 a h then a5B h l+1 else 0
theorem b68 (h:B0): ∀l:List B0,a5B h l≤l.length
 | []=>Nat.le_refl _
 | a::l=>by
  unfold a5B
  split
  ·have:=b68 h l;simp only [r4];omega
  ·omega
theorem b6O (h:B0): ∀l:List B0,a5I h l=l.take (a5B h l)++[h]++l.drop (a5B h l)
 | []=>rfl
 | a::l=>by
  unfold a5I a5B
  split
  ·rw [b6O h l];simp
  ·simp
theorem a6T {h:B0}{xs:List B0}{f:Int→Option (Int⊕Int)}(h1: ∀(i:Nat) x,xs[i]? =some x→f (i:Int)=some (if O4 x h then .inl ((i+1:Nat):Int) else .inr (i:Int)))
  (h0:f (xs.length:Int)=some (.inr (xs.length:Int))): ∀(k i F:Nat),i+k=xs.length→k<F→v8 f F (i:Int)=some ((i+a5B h (xs.drop i):Nat):Int)
 | 0,i,F,e,hF=>by
  obtain⟨F,rfl⟩: ∃G,F=G+1:=⟨F-1,by omega⟩
  rw [v8,show i=xs.length by omega,h0,List.drop_eq_nil_of_le (by omega)];rfl
 | k+1,i,F,e,hF=>by
  obtain⟨F,rfl⟩: ∃G,F=G+1:=⟨F-1,by omega⟩
  have hi:i<xs.length:=by omega
  rw [v8,h1 i xs[i] (j4 hi),List.drop_eq_getElem_cons hi,a5B]
  cases O4 xs[i] h with
  | true=>
   simp only [if_true,a8,Sum.elim_inl]
   rw [a6T h1 h0 k (i+1) F (by omega) (by omega)]
   congr 2;omega
  | false=>
   simp
theorem b9w (F:Nat)(l:List B0)(h:B0)(m:Nat)(hl:l.length≤1000)(hF:2000<F):T4 F l h (m:Int)=some ((a5I h l).take m):=by
 unfold T4
 have hw: ∀f,(∀(i:Nat) x,l[i]? =some x→f (i:Int)=some (if O4 x h then .inl ((i+1:Nat):Int) else .inr (i:Int)))→f (l.length:Int)=some (.inr (l.length:Int))→v8 f F (0:Int)=some ((a5B h l:Nat):Int):=fun f a b=>by
  have:=a6T (f:=f) a b l.length 0 F (by omega) (by omega)
  rwa [List.drop_zero,Nat.zero_add] at this
 rw [hw _ (fun i x hx=>?_) ?_]
 ·have hr:=b68 h l
  have c1:Y9 l 0 ((a5B h l:Nat):Int)=some (l.take (a5B h l)):=by
   unfold Y9
   rw [if_pos ⟨by omega,by omega,by omega⟩]
   simp
  have c2:Y9 l ((a5B h l:Nat):Int) (l.length:Int)=some (l.drop (a5B h l)):=by
   unfold Y9
   rw [if_pos ⟨by omega,by omega,by omega⟩]
   simp
  have l1:(l.take (a5B h l)).length≤1000:=by simp;omega
  have l2:(l.drop (a5B h l)).length≤1000:=by simp;omega
  have l0:([]:List B0).length=0:=rfl
  rw [a8,a8,c1,a8,F1 (by omega),List.nil_append,a8,F1 (by simp only [j9];omega),a8,c2,a8,
   F1 (by simp only [n9,j9];omega),a8,←b6O h l,a6u]
  by_cases hm:m<l.length+1
  ·rw [b8 (by omega),i9]
   unfold Y9
   rw [if_pos ⟨by omega,by omega,by rw [a6u];omega⟩]
   simp
  ·rw [c6 (by omega),i6,List.take_of_length_le (by rw [a6u];omega)]
 ·rw [c6 (by omega)];rfl
 ·have hi:=(i4.1 hx).1
  rw [b8 (by omega),i9,n5,hx,a8,c2D,a8,a8,y2 (by omega)]
  cases O4 x h<;>rfl
def J0 (l:List B0):List B0:=l.foldl (fun acc h=>a5I h acc) []
theorem b7x: ∀(l acc:List B0),a3a acc→(∀x∈l,x∉acc)→l.Nodup→a3a (l.foldl (fun acc h=>a5I h acc) acc)∧(∀x,x∈l.foldl (fun acc h=>a5I h acc) acc↔x∈acc∨x∈l)∧(l.foldl (fun acc h=>a5I h acc) acc).length=acc.length+l.length
 | [],acc,hs,_,_=>⟨hs,by simp,by simp⟩
 | a::l,acc,hs,hn,hd=>by
  have hdc:=List.nodup_cons.1 hd
  have ih:=b7x l (a5I a acc) (b1o hs (hn a (by simp))) (fun x hx hm=>by
   rcases a9O.1 hm with rfl | hm
   ·exact hdc.1 hx
   ·exact hn x (by simp [hx]) hm) hdc.2
  refine⟨ih.1,fun x=>?_,?_⟩
  ·rw [List.foldl_cons,ih.2.1,a9O,List.mem_cons]
   constructor
   ·rintro ((h | h) | h)<;>simp [h]
   ·rintro (h | h | h)<;>simp [h]
  ·rw [List.foldl_cons,ih.2.2,a6u,r4];omega
theorem b0Y: ∀{a b:List B0},a3a a→a3a b→(∀x,x∈a↔x∈b)→a=b
 | [],[],_,_,_=>rfl
 | [],y::b,_,_,h=>by have:=(h y).2 (by simp);cases this
 | x::a,[],_,_,h=>by have:=(h x).1 (by simp);cases this
 | x::a,y::b,ha,hb,h=>by
  have hac:=List.pairwise_cons.1 ha
  have hbc:=List.pairwise_cons.1 hb
  have hxy:x=y:=by
   rcases List.mem_cons.1 ((h x).1 (by simp)) with e | hx
   ·exact e
   ·rcases List.mem_cons.1 ((h y).2 (by simp)) with e | hy
    ·exact e.symm
    ·have h1:=hbc.1 x hx
     have h2:=hac.1 y hy
     rw [a7J h1] at h2;cases h2
  subst hxy
  congr 1
  refine b0Y hac.2 hbc.2 fun z=>?_
  constructor
  ·intro hz
   rcases List.mem_cons.1 ((h z).1 (by simp [hz])) with e | hz'
   ·subst e
    have:=hac.1 z hz
    rw [a3M] at this;cases this
   ·exact hz'
  ·intro hz
   rcases List.mem_cons.1 ((h z).2 (by simp [hz])) with e | hz'
   ·subst e
    have:=hbc.1 z hz
    rw [a3M] at this;cases this
   ·exact hz'
theorem a5D {l:List B0}(hd:l.Nodup):a3a (J0 l)∧(∀x,x∈J0 l↔x∈l)∧(J0 l).length=l.length:=by
 have:=b7x l [] List.Pairwise.nil (by simp) hd
 refine⟨this.1,fun x=>?_,by rw [J0,this.2.2];simp⟩
 rw [J0,this.2.1];simp
theorem b8C (F:Nat){l:List B0}(hd:l.Nodup)(hl:l.length≤1000000):a4R (fun a b=>H1 F a b) l=some (J0 l):=by
 have hlt: ∀a b,ltO (fun a b=>H1 F a b) a b=O4 a b:=c15 F
 have hok:a6i (fun a b=>H1 F a b) l=true:=by
  unfold a6i
  simp only [hlt,l8,decide_eq_true_iff,List.all_eq_true]
  refine⟨⟨⟨⟨⟨by omega,fun x _ y _=>by rw [b8r];rfl⟩,fun x _=>by rw [a3M];rfl⟩,fun x _ y _ z _=>?_⟩,fun x _ y _ z _=>?_⟩,?_⟩
  ·cases h1:O4 x y with
   | false=>simp
   | true=>
    cases h2:O4 y z with
    | false=>simp
    | true=>rw [a7K h1 h2];rfl
  ·cases h1:O4 x y with
   | true=>simp
   | false=>
    cases h2:O4 y z with
    | true=>simp
    | false=>
     have:O4 x z=false:=by
      rw [Bool.eq_false_iff];intro h3
      have a1: ¬_:=fun q=>by rw [(a0T x y).2 q] at h1;cases h1
      have a2: ¬_:=fun q=>by rw [(a0T y z).2 q] at h2;cases h2
      rw [a0T] at h3
      omega
     rw [this];rfl
  ·refine hd.imp fun {a b} hab=>?_
   cases h:O4 a b with
   | true=>exact .inl rfl
   | false=>exact .inr (b0C h hab)
 unfold a4R
 rw [if_pos hok]
 congr 1
 have hperm:=List.mergeSort_perm l (fun x y=> !ltO (fun a b=>H1 F a b) y x)
 have hs:=a5D hd
 refine b0Y ?_ hs.1 (fun x=>by rw [hperm.mem_iff,hs.2.1])
 have hsorted:=List.pairwise_mergeSort (le:=fun x y=> !ltO (fun a b=>H1 F a b) y x) (fun a b c h1 h2=>by
   simp only [hlt,Bool.not_eq_true'] at h1 h2 ⊢
   rw [Bool.eq_false_iff];intro h3
   have a1: ¬_:=fun q=>by rw [(a0T b a).2 q] at h1;cases h1
   have a2: ¬_:=fun q=>by rw [(a0T c b).2 q] at h2;cases h2
   rw [a0T] at h3
   omega) (fun a b=>by
   simp only [hlt]
   cases h:O4 b a with
   | false=>rfl
   | true=>rw [a7J h];rfl) l
 have hnd:(l.mergeSort fun x y=> !ltO (fun a b=>H1 F a b) y x).Nodup:=hperm.nodup_iff.2 hd
 refine(hsorted.and hnd).imp fun {a b} ⟨h1,h2⟩=>?_
 simp only [hlt,Bool.not_eq_true'] at h1
 exact b0C h1 (fun e=>h2 e.symm)
theorem a9C (F:Nat)(l:List B0)(m:Nat)(hd:l.Nodup)(hl:l.length≤1000):N2 F l (m:Int)=some ((J0 l).take m):=by
 have hs:=a5D hd
 unfold N2
 rw [F1 (by simp only [List.length_nil];omega),List.nil_append,a8,b8C F hd (by omega),a8]
 have hlen:=hs.2.2
 have hsub:Y9 (J0 l) 0 (if (m:Int)<((J0 l).length:Int) then (m:Int) else ((J0 l).length:Int))=some ((J0 l).take m):=by
  unfold Y9
  by_cases hm:(m:Int)<((J0 l).length:Int)
  ·rw [if_pos hm,if_pos ⟨by omega,by omega,by omega⟩];simp
  ·rw [if_neg hm,if_pos ⟨by omega,by omega,by omega⟩,List.take_of_length_le (i:=m) (by omega)];simp
 rw [hsub,a8,F1 (by simp only [List.length_nil,List.length_take];omega)]
 rfl
end Go.Fk
namespace Go.Fk
open Go
theorem c0Z {α:Type}{l:List α}{i:Nat}(h:i≤l.length):Y9 l 0 (i:Int)=some (l.take i):=by
 unfold Y9
 rw [if_pos ⟨by omega,by omega,by omega⟩]
 simp
structure c63 (l:List B0):Prop where
 rng: ∀h∈l,(1≤h.Doc∧h.Doc≤9999)∧1≤h.Points
 sorted:a3a l
 docs:l.Pairwise fun a b=>a.Doc≠b.Doc
 few:l.length≤16
end Go.Fk
namespace Go.Fk
open Go
theorem b3M (acc:List B0)(h:B0):J0 (acc++[h])=a5I h (J0 acc):=by
 unfold J0
 rw [List.foldl_append];rfl
theorem b6F: ∀(l acc:List B0),(l.foldl (fun acc h=>a5I h acc) acc).length=acc.length+l.length
 | [],acc=>by simp
 | a::l,acc=>by rw [List.foldl_cons,b6F l,a6u,r4];omega
theorem a2C (l:List B0):(J0 l).length=l.length:=by
 unfold J0
 rw [b6F];simp
end Go.Fk
