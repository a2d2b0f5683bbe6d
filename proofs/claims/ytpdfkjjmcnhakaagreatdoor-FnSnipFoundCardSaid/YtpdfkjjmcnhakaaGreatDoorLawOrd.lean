/-
  Order of texts, insertion, sorting by a key. Of no program.
-/
import Derived.Test.YtpdfkjjmcnhakaaGreatDoorLawBase
set_option linter.unusedVariables false
namespace Go.Fk
open Go
theorem b6u (a:l3):y7 a []=false:=by cases a<;>rfl
theorem b30 (a b:UInt8)(x y:l3):y7 (a::x) (b::y)=true↔a<b∨(a=b∧y7 x y=true):=by
 simp [y7,Op.bytesLess]
theorem a2l: ∀x:l3,y7 x x=false
 | []=>rfl
 | a::x=>by
  rw [Bool.eq_false_iff]
  intro h
  rcases (b30 a a x x).1 h with h | ⟨_,h⟩
  ·exact absurd (UInt8.lt_iff_toNat_lt.1 h) (by omega)
  ·rw [a2l x] at h;cases h
theorem a3n: ∀{x y z:l3},y7 x y=true→y7 y z=true→y7 x z=true
 | _,_,[],_,h=>by rw [b6u] at h;cases h
 | _,[],_::_,h,_=>by rw [b6u] at h;cases h
 | [],_::_,_::_,_,_=>rfl
 | a::x,b::y,c::z,h,h'=>by
  rw [b30] at h h' ⊢
  rcases h with h | ⟨rfl,h⟩
  ·rcases h' with h' | ⟨rfl,h'⟩
   ·exact .inl (UInt8.lt_iff_toNat_lt.2 (Nat.lt_trans (UInt8.lt_iff_toNat_lt.1 h) (UInt8.lt_iff_toNat_lt.1 h')))
   ·exact .inl h
  ·rcases h' with h' | ⟨rfl,h'⟩
   ·exact .inl h'
   ·exact .inr ⟨rfl,a3n h h'⟩
theorem b13 {a b:l3}(hne:a≠b):y7 a b=true∨y7 b a=true:=by
 have:=a27 a b
 cases h:y7 a b
 ·rw [h] at this
  have h2:(b==a)=false:=beq_eq_false_iff_ne.2 fun e=>hne e.symm
  rw [h2,Bool.or_false] at this
  exact .inr this.symm
 ·exact .inl rfl
theorem b6s {a b c:l3}(h:y7 a c=true):y7 a b=true∨y7 b c=true:=by
 by_cases e:a=b
 ·subst e;exact .inr h
 ·rcases b13 e with h1 | h1
  ·exact .inl h1
  ·exact .inr (a3n h1 h)
def a30 (l:List l3):Prop:=l.Pairwise fun a b=>y7 a b=true
def a1V (s:l3):List l3→List l3
 | []=>[s]
 | a::l=>if y7 a s then a::a1V s l else if a==s then a::l else s::a::l
theorem a8w {s x:l3}: ∀{l:List l3},x∈a1V s l↔x=s∨x∈l
 | []=>by simp [a1V]
 | a::l=>by
  unfold a1V
  split
  ·rw [List.mem_cons,a8w (l:=l),List.mem_cons]
   constructor
   ·rintro (h1 | h1 | h1)<;>simp [h1]
   ·rintro (h1 | h1 | h1)<;>simp [h1]
  ·split
   ·rename_i h
    have:=eq_of_beq h
    subst this
    rw [List.mem_cons]
    constructor
    ·rintro (h | h)<;>simp [h]
    ·rintro (h | h | h)<;>simp [h]
   ·simp [List.mem_cons]
theorem a65 {s:l3}: ∀{l:List l3},a30 l→a30 (a1V s l)
 | [],_=>by simp [a1V,a30]
 | a::l,hs=>by
  have hc:=List.pairwise_cons.1 hs
  unfold a1V
  cases hl:y7 a s with
  | true=>
   rw [if_pos rfl]
   refine List.pairwise_cons.2 ⟨fun x hx=>?_,a65 hc.2⟩
   rcases a8w.1 hx with rfl | hx
   ·exact hl
   ·exact hc.1 x hx
  | false=>
   rw [if_neg (by simp)]
   cases he:(a==s) with
   | true=>exact hs
   | false=>
    have hsa:y7 s a=true:=by
     rcases b13 (a:=a) (b:=s) (by simpa using he) with h | h
     ·rw [hl] at h;cases h
     ·exact h
    rw [if_neg (by simp)]
    refine List.pairwise_cons.2 ⟨fun x hx=>?_,hs⟩
    rcases List.mem_cons.1 hx with rfl | hx
    ·exact hsa
    ·exact a3n hsa (hc.1 x hx)
theorem a5Z (s:l3): ∀l:List l3,(a1V s l).length≤l.length+1
 | []=>by simp [a1V]
 | a::l=>by
  unfold a1V
  split
  ·have:=a5Z s l;simp only [l9];omega
  ·split<;>simp only [l9]<;>omega
def a0G (s:l3):List l3→Nat
 | []=>0
 | a::l=>if y7 a s then a0G s l+1 else 0
theorem b1O (s:l3): ∀l:List l3,a0G s l≤l.length
 | []=>Nat.le_refl _
 | a::l=>by
  unfold a0G
  split
  ·have:=b1O s l;simp only [l9];omega
  ·omega
theorem b1C (s:l3): ∀l:List l3,a1V s l=if (l[a0G s l]?).elim false (fun x=>x==s) then l else l.take (a0G s l)++[s]++l.drop (a0G s l)
 | []=>rfl
 | a::l=>by
  unfold a1V a0G
  split
  ·rw [b1C s l,List.getElem?_cons_succ]
   split<;>simp
  ·rw [M0,M0,List.getElem?_cons_zero,Option.elim_some]
   cases (a==s)<;>rfl
theorem a7a {s:l3}{xs:List l3}{f:Int→Option (Int⊕Int)}(h1: ∀(i:Nat) x,xs[i]? =some x→f (i:Int)=some (if y7 x s then .inl ((i+1:Nat):Int) else .inr (i:Int)))
  (h0:f (xs.length:Int)=some (.inr (xs.length:Int))): ∀(k i F:Nat),i+k=xs.length→k<F→u0 f F (i:Int)=some ((i+a0G s (xs.drop i):Nat):Int)
 | 0,i,F,e,hF=>by
  obtain⟨F,rfl⟩: ∃G,F=G+1:=⟨F-1,by omega⟩
  rw [u0,show i=xs.length by omega,h0,List.drop_eq_nil_of_le (by omega)];rfl
 | k+1,i,F,e,hF=>by
  obtain⟨F,rfl⟩: ∃G,F=G+1:=⟨F-1,by omega⟩
  have hi:i<xs.length:=by omega
  rw [u0,h1 i xs[i] (i6 hi),List.drop_eq_getElem_cons hi,a0G]
  cases y7 xs[i] s with
  | true=>
   simp only [if_true,a8,Sum.elim_inl]
   rw [a7a h1 h0 k (i+1) F (by omega) (by omega)]
   congr 2;omega
  | false=>simp
theorem a49 {α σ τ τ':Type}{xs:List α}{e:σ→τ}{g:σ→α→σ}{I:Nat→σ→Prop}{mk:σ→Int→τ'}{f:τ'→Option (τ'⊕τ)}(h: ∀(i:Nat) x s,xs[i]? =some x→I i s→f (mk s (i:Int))=some (.inl (mk (g s x) ((i+1:Nat):Int)))∧I (i+1) (g s x))
  (h0: ∀s,I xs.length s→f (mk s (xs.length:Int))=some (.inr (e s))): ∀k i s F,i+k=xs.length→k<F→I i s→u0 f F (mk s (i:Int))=some (e ((xs.drop i).foldl g s))∧I xs.length ((xs.drop i).foldl g s)
 | 0,i,s,F,he,hF,hI=>by
  obtain⟨F,rfl⟩: ∃G,F=G+1:=⟨F-1,by omega⟩
  obtain rfl:i=xs.length:=by omega
  rw [u0,h0 s hI,List.drop_of_length_le (Nat.le_refl _)]
  exact⟨rfl,hI⟩
 | k+1,i,s,F,he,hF,hI=>by
  obtain⟨F,rfl⟩: ∃G,F=G+1:=⟨F-1,by omega⟩
  have hi:i<xs.length:=by omega
  obtain⟨h1,h2⟩:=h i xs[i] s (i6 hi) hI
  rw [List.drop_eq_getElem_cons hi,List.foldl_cons,u0,h1,a8]
  exact a49 h h0 k (i+1) _ F (by omega) (by omega) h2
theorem Z4 {α σ τ τ':Type}{xs:List α}(g:σ→α→σ)(I:Nat→σ→Prop)(e:σ→τ)(mk:σ→Int→τ'){f:τ'→Option (τ'⊕τ)}{s0:τ'}(s:σ)(hs:s0=mk s 0)(F:Nat)(hF:xs.length<F)(hI:I 0 s)(h: ∀(i:Nat) x s,xs[i]? =some x→I i s→f (mk s (i:Int))=some (.inl (mk (g s x) ((i+1:Nat):Int)))∧I (i+1) (g s x))
  (h0: ∀s,I xs.length s→f (mk s (xs.length:Int))=some (.inr (e s))):u0 f F s0=some (e (xs.foldl g s))∧I xs.length (xs.foldl g s):=by
 have:=a49 h h0 xs.length 0 s F (by omega) hF hI
 rw [List.drop_zero] at this
 rw [hs];exact this
theorem a7c {β:Type}{lt:β→β→Bool}(irr: ∀a,lt a a=false)(tr: ∀{a b c},lt a b=true→lt b c=true→lt a c=true): ∀{a b:List β},(a.Pairwise fun x y=>lt x y=true)→(b.Pairwise fun x y=>lt x y=true)→(∀x,x∈a↔x∈b)→a=b
 | [],[],_,_,_=>rfl
 | [],y::b,_,_,h=>by have:=(h y).2 (by simp);cases this
 | x::a,[],_,_,h=>by have:=(h x).1 (by simp);cases this
 | x::a,y::b,ha,hb,h=>by
  have hac:=List.pairwise_cons.1 ha
  have hbc:=List.pairwise_cons.1 hb
  have hxy:x=y:=by
   rcases List.mem_cons.1 ((h x).1 (by simp)) with e | hx
   ·exact e
   ·rcases List.mem_cons.1 ((h y).2 (by simp)) with e | hy
    ·exact e.symm
    ·have:=tr (hbc.1 x hx) (hac.1 y hy)
     rw [irr] at this;cases this
  subst hxy
  congr 1
  refine a7c irr tr hac.2 hbc.2 fun z=>?_
  constructor
  ·intro hz
   rcases List.mem_cons.1 ((h z).1 (by simp [hz])) with e | hz'
   ·subst e
    have:=hac.1 z hz
    rw [irr] at this;cases this
   ·exact hz'
  ·intro hz
   rcases List.mem_cons.1 ((h z).2 (by simp [hz])) with e | hz'
   ·subst e
    have:=hbc.1 z hz
    rw [irr] at this;cases this
   ·exact hz'
theorem b6v {β:Type}{c:β→β→Option Int}{lt:β→β→Bool}(hlt: ∀a b,ltO c a b=lt a b)(hsm: ∀a b,(c a b).isSome=true)(irr: ∀a,lt a a=false)(tr: ∀{a b c},lt a b=true→lt b c=true→lt a c=true)(ng: ∀{a b c},lt a c=true→lt a b=true∨lt b c=true)
  {l t:List β}(hd:l.Pairwise fun a b=>lt a b=true∨lt b a=true)(ht:t.Pairwise fun x y=>lt x y=true)(hm: ∀x,x∈t↔x∈l)(hl:l.length≤1000000):b14 c l=some t:=by
 have hok:b0V c l=true:=by
  unfold b0V
  simp only [hlt,l5,decide_eq_true_iff,List.all_eq_true]
  refine⟨⟨⟨⟨⟨by omega,fun x _ y _=>hsm x y⟩,fun x _=>by rw [irr];rfl⟩,fun x _ y _ z _=>?_⟩,fun x _ y _ z _=>?_⟩,hd⟩
  ·cases h1:lt x y with
   | false=>simp
   | true=>
    cases h2:lt y z with
    | false=>simp
    | true=>rw [tr h1 h2];rfl
  ·cases h1:lt x y with
   | true=>simp
   | false=>
    cases h2:lt y z with
    | true=>simp
    | false=>
     have:lt x z=false:=by
      rw [Bool.eq_false_iff];intro h3
      rcases ng (b:=y) h3 with h | h
      ·rw [h1] at h;cases h
      ·rw [h2] at h;cases h
     rw [this];rfl
 unfold b14
 rw [if_pos hok]
 congr 1
 have hperm:=List.mergeSort_perm l (fun x y=> !ltO c y x)
 refine a7c irr tr ?_ ht (fun x=>by rw [hperm.mem_iff,hm])
 have hsorted:=List.pairwise_mergeSort (le:=fun x y=> !ltO c y x) (fun a b c' h1 h2=>by
   simp only [hlt,Bool.not_eq_true'] at h1 h2 ⊢
   rw [Bool.eq_false_iff];intro h3
   rcases ng (b:=b) h3 with h | h
   ·rw [h2] at h;cases h
   ·rw [h1] at h;cases h) (fun a b=>by
   simp only [hlt]
   cases h:lt b a with
   | false=>rfl
   | true=>
    have:lt a b=false:=by
     rw [Bool.eq_false_iff];intro h2
     have:=tr h h2
     rw [irr] at this;cases this
    rw [this];rfl) l
 have hd':(l.mergeSort fun x y=> !ltO c y x).Pairwise fun a b=>lt a b=true∨lt b a=true:=hperm.symm.pairwise hd fun h=>h.symm
 refine(hsorted.and hd').imp fun {a b} ⟨h1,h2⟩=>?_
 simp only [hlt,Bool.not_eq_true'] at h1
 rcases h2 with h2 | h2
 ·exact h2
 ·rw [h1] at h2;cases h2
end Go.Fk
