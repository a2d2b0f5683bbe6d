/-
  Order of texts, insertion, sorting by a key. Of no program.
-/
import Derived.Test.YtpdfkjjmcnhakaaGreatDoorLawGather
set_option linter.unusedVariables false
namespace Go.Fk
open Go
theorem sl_nil (a:Str):strLess a []=false:=by cases a<;>rfl
theorem sl_cons (a b:UInt8)(x y:Str):strLess (a::x) (b::y)=true↔a<b∨(a=b∧strLess x y=true):=by
 simp [strLess,Op.bytesLess]
theorem sl_irrefl: ∀x:Str,strLess x x=false
 | []=>rfl
 | a::x=>by
  rw [Bool.eq_false_iff]
  intro h
  rcases (sl_cons a a x x).1 h with h | ⟨_,h⟩
  ·exact absurd (UInt8.lt_iff_toNat_lt.1 h) (by omega)
  ·rw [sl_irrefl x] at h;cases h
theorem sl_trans: ∀{x y z:Str},strLess x y=true→strLess y z=true→strLess x z=true
 | _,_,[],_,h=>by rw [sl_nil] at h;cases h
 | _,[],_::_,h,_=>by rw [sl_nil] at h;cases h
 | [],_::_,_::_,_,_=>rfl
 | a::x,b::y,c::z,h,h'=>by
  rw [sl_cons] at h h' ⊢
  rcases h with h | ⟨rfl,h⟩
  ·rcases h' with h' | ⟨rfl,h'⟩
   ·exact .inl (UInt8.lt_iff_toNat_lt.2 (Nat.lt_trans (UInt8.lt_iff_toNat_lt.1 h) (UInt8.lt_iff_toNat_lt.1 h')))
   ·exact .inl h
  ·rcases h' with h' | ⟨rfl,h'⟩
   ·exact .inl h'
   ·exact .inr ⟨rfl,sl_trans h h'⟩
theorem sl_or {a b:Str}(hne:a≠b):strLess a b=true∨strLess b a=true:=by
 have:=lessTotal a b
 cases h:strLess a b
 ·rw [h] at this
  have h2:(b==a)=false:=beq_eq_false_iff_ne.2 fun e=>hne e.symm
  rw [h2,Bool.or_false] at this
  exact .inr this.symm
 ·exact .inl rfl
theorem sl_neg {a b c:Str}(h:strLess a c=true):strLess a b=true∨strLess b c=true:=by
 by_cases e:a=b
 ·subst e;exact .inr h
 ·rcases sl_or e with h1 | h1
  ·exact .inl h1
  ·exact .inr (sl_trans h1 h)
def SortS (l:List Str):Prop:=l.Pairwise fun a b=>strLess a b=true
def insS (s:Str):List Str→List Str
 | []=>[s]
 | a::l=>if strLess a s then a::insS s l else if a==s then a::l else s::a::l
theorem mem_insS {s x:Str}: ∀{l:List Str},x∈insS s l↔x=s∨x∈l
 | []=>by simp [insS]
 | a::l=>by
  unfold insS
  split
  ·rw [List.mem_cons,mem_insS (l:=l),List.mem_cons]
   constructor
   ·rintro (h1 | h1 | h1)<;>simp [h1]
   ·rintro (h1 | h1 | h1)<;>simp [h1]
  ·split
   ·rename_i h
    have:=eq_of_beq h
    subst this
    rw [List.mem_cons]
    constructor
    ·rintro (h | h)<;>simp [h]
    ·rintro (h | h | h)<;>simp [h]
   ·simp [List.mem_cons]
theorem insS_sorted {s:Str}: ∀{l:List Str},SortS l→SortS (insS s l)
 | [],_=>by simp [insS,SortS]
 | a::l,hs=>by
  have hc:=List.pairwise_cons.1 hs
  unfold insS
  cases hl:strLess a s with
  | true=>
   rw [if_pos rfl]
   refine List.pairwise_cons.2 ⟨fun x hx=>?_,insS_sorted hc.2⟩
   rcases mem_insS.1 hx with rfl | hx
   ·exact hl
   ·exact hc.1 x hx
  | false=>
   rw [if_neg (by simp)]
   cases he:(a==s) with
   | true=>exact hs
   | false=>
    have hsa:strLess s a=true:=by
     rcases sl_or (a:=a) (b:=s) (by simpa using he) with h | h
     ·rw [hl] at h;cases h
     ·exact h
    rw [if_neg (by simp)]
    refine List.pairwise_cons.2 ⟨fun x hx=>?_,hs⟩
    rcases List.mem_cons.1 hx with rfl | hx
    ·exact hsa
    ·exact sl_trans hsa (hc.1 x hx)
theorem insS_len (s:Str): ∀l:List Str,(insS s l).length≤l.length+1
 | []=>by simp [insS]
 | a::l=>by
  unfold insS
  split
  ·have:=insS_len s l;simp only [List.length_cons];omega
  ·split<;>simp only [List.length_cons]<;>omega
def rankS (s:Str):List Str→Nat
 | []=>0
 | a::l=>if strLess a s then rankS s l+1 else 0
theorem rankS_le (s:Str): ∀l:List Str,rankS s l≤l.length
 | []=>Nat.le_refl _
 | a::l=>by
  unfold rankS
  split
  ·have:=rankS_le s l;simp only [List.length_cons];omega
  ·omega
theorem insS_cut (s:Str): ∀l:List Str,insS s l=if (l[rankS s l]?).elim false (fun x=>x==s) then l else l.take (rankS s l)++[s]++l.drop (rankS s l)
 | []=>rfl
 | a::l=>by
  unfold insS rankS
  split
  ·rw [insS_cut s l,List.getElem?_cons_succ]
   split<;>simp
  ·rw [if_bif,if_bif,List.getElem?_cons_zero,Option.elim_some]
   cases (a==s)<;>rfl
theorem rank_whileS {s:Str}{xs:List Str}{f:Int→Option (Int⊕Int)}(h1: ∀(i:Nat) x,xs[i]? =some x→f (i:Int)=some (if strLess x s then .inl ((i+1:Nat):Int) else .inr (i:Int)))
  (h0:f (xs.length:Int)=some (.inr (xs.length:Int))): ∀(k i F:Nat),i+k=xs.length→k<F→whileM f F (i:Int)=some ((i+rankS s (xs.drop i):Nat):Int)
 | 0,i,F,e,hF=>by
  obtain⟨F,rfl⟩: ∃G,F=G+1:=⟨F-1,by omega⟩
  rw [whileM,show i=xs.length by omega,h0,List.drop_eq_nil_of_le (by omega)];rfl
 | k+1,i,F,e,hF=>by
  obtain⟨F,rfl⟩: ∃G,F=G+1:=⟨F-1,by omega⟩
  have hi:i<xs.length:=by omega
  rw [whileM,h1 i xs[i] (List.getElem?_eq_getElem hi),List.drop_eq_getElem_cons hi,rankS]
  cases strLess xs[i] s with
  | true=>
   simp only [if_true,Option.bind_some,Sum.elim_inl]
   rw [rank_whileS h1 h0 k (i+1) F (by omega) (by omega)]
   congr 2;omega
  | false=>simp
theorem fold_while_at {α σ τ τ':Type}{xs:List α}{e:σ→τ}{g:σ→α→σ}{I:Nat→σ→Prop}{mk:σ→Int→τ'}{f:τ'→Option (τ'⊕τ)}(h: ∀(i:Nat) x s,xs[i]? =some x→I i s→f (mk s (i:Int))=some (.inl (mk (g s x) ((i+1:Nat):Int)))∧I (i+1) (g s x))
  (h0: ∀s,I xs.length s→f (mk s (xs.length:Int))=some (.inr (e s))): ∀k i s F,i+k=xs.length→k<F→I i s→whileM f F (mk s (i:Int))=some (e ((xs.drop i).foldl g s))∧I xs.length ((xs.drop i).foldl g s)
 | 0,i,s,F,he,hF,hI=>by
  obtain⟨F,rfl⟩: ∃G,F=G+1:=⟨F-1,by omega⟩
  obtain rfl:i=xs.length:=by omega
  rw [whileM,h0 s hI,List.drop_of_length_le (Nat.le_refl _)]
  exact⟨rfl,hI⟩
 | k+1,i,s,F,he,hF,hI=>by
  obtain⟨F,rfl⟩: ∃G,F=G+1:=⟨F-1,by omega⟩
  have hi:i<xs.length:=by omega
  obtain⟨h1,h2⟩:=h i xs[i] s (List.getElem?_eq_getElem hi) hI
  rw [List.drop_eq_getElem_cons hi,List.foldl_cons,whileM,h1,Option.bind_some]
  exact fold_while_at h h0 k (i+1) _ F (by omega) (by omega) h2
theorem fold_while {α σ τ τ':Type}{xs:List α}(g:σ→α→σ)(I:Nat→σ→Prop)(e:σ→τ)(mk:σ→Int→τ'){f:τ'→Option (τ'⊕τ)}{s0:τ'}(s:σ)(hs:s0=mk s 0)(F:Nat)(hF:xs.length<F)(hI:I 0 s)(h: ∀(i:Nat) x s,xs[i]? =some x→I i s→f (mk s (i:Int))=some (.inl (mk (g s x) ((i+1:Nat):Int)))∧I (i+1) (g s x))
  (h0: ∀s,I xs.length s→f (mk s (xs.length:Int))=some (.inr (e s))):whileM f F s0=some (e (xs.foldl g s))∧I xs.length (xs.foldl g s):=by
 have:=fold_while_at h h0 xs.length 0 s F (by omega) hF hI
 rw [List.drop_zero] at this
 rw [hs];exact this
theorem sorted_same {β:Type}{lt:β→β→Bool}(irr: ∀a,lt a a=false)(tr: ∀{a b c},lt a b=true→lt b c=true→lt a c=true): ∀{a b:List β},(a.Pairwise fun x y=>lt x y=true)→(b.Pairwise fun x y=>lt x y=true)→(∀x,x∈a↔x∈b)→a=b
 | [],[],_,_,_=>rfl
 | [],y::b,_,_,h=>by have:=(h y).2 (by simp);cases this
 | x::a,[],_,_,h=>by have:=(h x).1 (by simp);cases this
 | x::a,y::b,ha,hb,h=>by
  have hac:=List.pairwise_cons.1 ha
  have hbc:=List.pairwise_cons.1 hb
  have hxy:x=y:=by
   rcases List.mem_cons.1 ((h x).1 (by simp)) with e | hx
   ·exact e
   ·rcases List.mem_cons.1 ((h y).2 (by simp)) with e | hy
    ·exact e.symm
    ·have:=tr (hbc.1 x hx) (hac.1 y hy)
     rw [irr] at this;cases this
  subst hxy
  congr 1
  refine sorted_same irr tr hac.2 hbc.2 fun z=>?_
  constructor
  ·intro hz
   rcases List.mem_cons.1 ((h z).1 (by simp [hz])) with e | hz'
   ·subst e
    have:=hac.1 z hz
    rw [irr] at this;cases this
   ·exact hz'
  ·intro hz
   rcases List.mem_cons.1 ((h z).2 (by simp [hz])) with e | hz'
   ·subst e
    have:=hbc.1 z hz
    rw [irr] at this;cases this
   ·exact hz'
theorem sortO_is {β:Type}{c:β→β→Option Int}{lt:β→β→Bool}(hlt: ∀a b,ltO c a b=lt a b)(hsm: ∀a b,(c a b).isSome=true)(irr: ∀a,lt a a=false)(tr: ∀{a b c},lt a b=true→lt b c=true→lt a c=true)(ng: ∀{a b c},lt a c=true→lt a b=true∨lt b c=true)
  {l t:List β}(hd:l.Pairwise fun a b=>lt a b=true∨lt b a=true)(ht:t.Pairwise fun x y=>lt x y=true)(hm: ∀x,x∈t↔x∈l)(hl:l.length≤1000000):sortO c l=some t:=by
 have hok:sortOk c l=true:=by
  unfold sortOk
  simp only [hlt,Bool.and_eq_true,decide_eq_true_iff,List.all_eq_true]
  refine⟨⟨⟨⟨⟨by omega,fun x _ y _=>hsm x y⟩,fun x _=>by rw [irr];rfl⟩,fun x _ y _ z _=>?_⟩,fun x _ y _ z _=>?_⟩,hd⟩
  ·cases h1:lt x y with
   | false=>simp
   | true=>
    cases h2:lt y z with
    | false=>simp
    | true=>rw [tr h1 h2];rfl
  ·cases h1:lt x y with
   | true=>simp
   | false=>
    cases h2:lt y z with
    | true=>simp
    | false=>
     have:lt x z=false:=by
      rw [Bool.eq_false_iff];intro h3
      rcases ng (b:=y) h3 with h | h
      ·rw [h1] at h;cases h
      ·rw [h2] at h;cases h
     rw [this];rfl
 unfold sortO
 rw [if_pos hok]
 congr 1
 have hperm:=List.mergeSort_perm l (fun x y=> !ltO c y x)
 refine sorted_same irr tr ?_ ht (fun x=>by rw [hperm.mem_iff,hm])
 have hsorted:=List.pairwise_mergeSort (le:=fun x y=> !ltO c y x) (fun a b c' h1 h2=>by
   simp only [hlt,Bool.not_eq_true'] at h1 h2 ⊢
   rw [Bool.eq_false_iff];intro h3
   rcases ng (b:=b) h3 with h | h
   ·rw [h2] at h;cases h
   ·rw [h1] at h;cases h) (fun a b=>by
   simp only [hlt]
   cases h:lt b a with
   | false=>rfl
   | true=>
    have:lt a b=false:=by
     rw [Bool.eq_false_iff];intro h2
     have:=tr h h2
     rw [irr] at this;cases this
    rw [this];rfl) l
 have hd':(l.mergeSort fun x y=> !ltO c y x).Pairwise fun a b=>lt a b=true∨lt b a=true:=hperm.symm.pairwise hd fun h=>h.symm
 refine(hsorted.and hd').imp fun {a b} ⟨h1,h2⟩=>?_
 simp only [hlt,Bool.not_eq_true'] at h1
 rcases h2 with h2 | h2
 ·exact h2
 ·rw [h1] at h2;cases h2
end Go.Fk
