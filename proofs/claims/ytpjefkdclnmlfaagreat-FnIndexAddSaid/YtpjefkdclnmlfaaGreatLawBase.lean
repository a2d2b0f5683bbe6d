import Derived.Test.YtpjefkdclnmlfaaGreatLawKeep
import Derived.Test.YtpjefkdclnmlfaaGreatLawWD
/-
  Loops that look for the first element of a kind. Of no program.
-/
namespace Go.Fk
open Go
theorem if_bif {α:Type}(b:Bool)(x y:α):(if b=true then x else y)=bif b then x else y:=by cases b<;>rfl
theorem find_from_at {α σ τ:Type}{xs:List α}{p:α→Bool}{g:α→τ}{s:σ}{f:Nat→σ→Option (σ⊕τ)}(h: ∀i x,xs[i]? =some x→f i s=some (if p x then .inr (g x) else .inl s)):
  ∀k i,i+k=xs.length→forFrom f k i s=some (((xs.drop i).find? p).elim (.inl s) fun x=>.inr (g x))
 | 0,i,e=>by rw [forFrom,List.drop_of_length_le (by omega)];rfl
 | k+1,i,e=>by
  have hi:i<xs.length:=by omega
  rw [forFrom,h i xs[i] (List.getElem?_eq_getElem hi),List.drop_eq_getElem_cons hi,List.find?_cons]
  cases hp:p xs[i]
  ·rw [Option.bind_some];exact find_from_at h k (i+1) (by omega)
  ·rfl
theorem find_from {α σ τ:Type}{xs:List α}(p:α→Bool)(g:α→τ){s:σ}{f:Nat→σ→Option (σ⊕τ)}(h: ∀i x,xs[i]? =some x→f i s=some (if p x then .inr (g x) else .inl s)):
  forFrom f xs.length 0 s=some ((xs.find? p).elim (.inl s) fun x=>.inr (g x)):=find_from_at h xs.length 0 (by omega)
theorem find_while_at {α τ:Type}{xs:List α}{p:α→Bool}{g:α→τ}{e:τ}{f:Int→Option (Int⊕τ)}(h: ∀(i:Nat) x,xs[i]? =some x→f (i:Int)=some (if p x then .inr (g x) else .inl ((i+1:Nat):Int)))(h0:f (xs.length:Int)=some (.inr e)):
  ∀k i F,i+k=xs.length→k<F→whileM f F (i:Int)=some (((xs.drop i).find? p).elim e g)
 | 0,i,F,he,hF=>by
  obtain⟨F,rfl⟩: ∃G,F=G+1:=⟨F-1,by omega⟩
  rw [whileM,show i=xs.length by omega,h0,List.drop_of_length_le (Nat.le_refl _)];rfl
 | k+1,i,F,he,hF=>by
  obtain⟨F,rfl⟩: ∃G,F=G+1:=⟨F-1,by omega⟩
  have hi:i<xs.length:=by omega
  rw [whileM,h i xs[i] (List.getElem?_eq_getElem hi),List.drop_eq_getElem_cons hi,List.find?_cons]
  cases hp:p xs[i]
  ·rw [Option.bind_some];exact find_while_at h h0 k (i+1) F (by omega) (by omega)
  ·rfl
theorem find_while {α τ:Type}{xs:List α}(p:α→Bool)(g:α→τ){e:τ}{f:Int→Option (Int⊕τ)}(F:Nat)(hF:xs.length<F)(h: ∀(i:Nat) x,xs[i]? =some x→f (i:Int)=some (if p x then .inr (g x) else .inl ((i+1:Nat):Int)))(h0:f (xs.length:Int)=some (.inr e)):
  whileM f F (0:Int)=some ((xs.find? p).elim e g):=find_while_at h h0 xs.length 0 F (by omega) hF
theorem all_while0 {α:Type}(p:α→Bool){xs:List α}{f:Int→Option (Int⊕(Unit⊕Bool))}(F:Nat)(hF:xs.length<F)(h: ∀(i:Nat) x,xs[i]? =some x→f (i:Int)=some (if p x then .inl ((i+1:Nat):Int) else .inr (.inr false)))
  (h0:f (xs.length:Int)=some (.inr (.inl ()))):whileM f F (0:Int)=some (if xs.all p then .inl () else .inr false):=by
 have:=all_while (p:=p) h h0 xs.length 0 F (by omega) hF
 rwa [List.drop_zero] at this
theorem idx_from_at {α σ:Type}{xs:List α}{p:α→Bool}{s:σ}{f:Nat→σ→Option (σ⊕Int)}(h: ∀i x,xs[i]? =some x→f i s=some (if p x then .inr (i:Int) else .inl s)):
  ∀k i,i+k=xs.length→forFrom f k i s=some (((xs.drop i).findIdx? p).elim (.inl s) fun j=>.inr ((i+j:Nat):Int))
 | 0,i,e=>by rw [forFrom,List.drop_of_length_le (by omega)];rfl
 | k+1,i,e=>by
  have hi:i<xs.length:=by omega
  rw [forFrom,h i xs[i] (List.getElem?_eq_getElem hi),List.drop_eq_getElem_cons hi,List.findIdx?_cons]
  cases hp:p xs[i]
  ·rw [Option.bind_some]
   show forFrom f k (i+1) s=_
   rw [idx_from_at h k (i+1) (by omega)]
   cases (xs.drop (i+1)).findIdx? p with
   | none=>rfl
   | some j=>simp;omega
  ·simp
theorem idx_from {α σ:Type}{xs:List α}(p:α→Bool){s:σ}{f:Nat→σ→Option (σ⊕Int)}(h: ∀i x,xs[i]? =some x→f i s=some (if p x then .inr (i:Int) else .inl s)):
  forFrom f xs.length 0 s=some ((xs.findIdx? p).elim (.inl s) fun j=>.inr (j:Int)):=by
 rw [idx_from_at h xs.length 0 (by omega),List.drop_zero]
 cases xs.findIdx? p<;>simp
theorem idx_ge {α:Type}(p:α→Bool)(xs:List α):(decide ((0:Int)≤((xs.findIdx? p).elim (-1:Int) fun j=>(j:Int))))=xs.any p:=by
 induction xs with
 | nil=>rfl
 | cons x r ih=>
  rw [List.findIdx?_cons,List.any_cons]
  cases hp:p x
  ·simp only [Bool.false_or,←ih]
   cases r.findIdx? p with
   | none=>rfl
   | some j=>simp;omega
  ·simp
end Go.Fk
namespace Go.Fk
open Go
theorem fm_forE_at {α β:Type}{xs:List α}{g:α→List β}{B:Nat}{f:Nat→List β→Option (List β)}(h: ∀i x acc,xs[i]? =some x→(acc++g x).length≤B→f i acc=some (acc++g x)):
  ∀k i acc,i+k=xs.length→(acc++(xs.drop i).flatMap g).length≤B→forE f k i acc=some (acc++(xs.drop i).flatMap g)
 | 0,i,acc,e,hB=>by rw [forE,List.drop_of_length_le (by omega)];simp
 | k+1,i,acc,e,hB=>by
  have hi:i<xs.length:=by omega
  rw [List.drop_eq_getElem_cons hi,List.flatMap_cons,←List.append_assoc] at hB ⊢
  rw [forE,h i xs[i] acc (List.getElem?_eq_getElem hi) (by rw [List.length_append] at hB;omega),Option.bind_some]
  exact fm_forE_at h k (i+1) _ (by omega) hB
theorem fm_forE {α β:Type}{xs:List α}(g:α→List β)(B:Nat){f:Nat→List β→Option (List β)}(h: ∀i x acc,xs[i]? =some x→(acc++g x).length≤B→f i acc=some (acc++g x))(acc:List β)(hB:(acc++xs.flatMap g).length≤B):
  forE f xs.length 0 acc=some (acc++xs.flatMap g):=by
 have:=fm_forE_at h xs.length 0 acc (by omega) (by rwa [List.drop_zero])
 rwa [List.drop_zero] at this
theorem fm_while_at {α β:Type}{xs:List α}{g:α→List β}{B:Nat}{f:List β×Int→Option ((List β×Int)⊕List β)}(h: ∀(i:Nat) x acc,xs[i]? =some x→(acc++g x).length≤B→f (acc,(i:Int))=some (.inl (acc++g x,((i+1:Nat):Int))))
  (h0: ∀acc,f (acc,(xs.length:Int))=some (.inr acc)): ∀k i acc F,i+k=xs.length→k<F→(acc++(xs.drop i).flatMap g).length≤B→whileM f F (acc,(i:Int))=some (acc++(xs.drop i).flatMap g)
 | 0,i,acc,F,e,hF,hB=>by
  obtain⟨F,rfl⟩: ∃G,F=G+1:=⟨F-1,by omega⟩
  rw [whileM,show i=xs.length by omega,h0,List.drop_of_length_le (Nat.le_refl _)];simp
 | k+1,i,acc,F,e,hF,hB=>by
  obtain⟨F,rfl⟩: ∃G,F=G+1:=⟨F-1,by omega⟩
  have hi:i<xs.length:=by omega
  rw [List.drop_eq_getElem_cons hi,List.flatMap_cons,←List.append_assoc] at hB ⊢
  rw [whileM,h i xs[i] acc (List.getElem?_eq_getElem hi) (by rw [List.length_append] at hB;omega),Option.bind_some]
  exact fm_while_at h h0 k (i+1) _ F (by omega) (by omega) hB
theorem fm_while {α β:Type}{xs:List α}(g:α→List β)(B:Nat){f:List β×Int→Option ((List β×Int)⊕List β)}(F:Nat)(hF:xs.length<F)(h: ∀(i:Nat) x acc,xs[i]? =some x→(acc++g x).length≤B→f (acc,(i:Int))=some (.inl (acc++g x,((i+1:Nat):Int))))
  (h0: ∀acc,f (acc,(xs.length:Int))=some (.inr acc))(acc:List β)(hB:(acc++xs.flatMap g).length≤B):whileM f F (acc,(0:Int))=some (acc++xs.flatMap g):=by
 have:=fm_while_at h h0 xs.length 0 acc F (by omega) hF (by rwa [List.drop_zero])
 rwa [List.drop_zero] at this
theorem fold_forE_at {α σ:Type}{xs:List α}{g:σ→α→σ}{f:Nat→σ→Option σ}(h: ∀i x s,xs[i]? =some x→f i s=some (g s x)): ∀k i s,i+k=xs.length→forE f k i s=some ((xs.drop i).foldl g s)
 | 0,i,s,e=>by rw [forE,List.drop_of_length_le (by omega)];rfl
 | k+1,i,s,e=>by
  have hi:i<xs.length:=by omega
  rw [forE,h i xs[i] s (List.getElem?_eq_getElem hi),List.drop_eq_getElem_cons hi,Option.bind_some,List.foldl_cons]
  exact fold_forE_at h k (i+1) _ (by omega)
theorem fold_forE {α σ:Type}{xs:List α}(g:σ→α→σ){f:Nat→σ→Option σ}(h: ∀i x s,xs[i]? =some x→f i s=some (g s x))(s:σ):forE f xs.length 0 s=some (xs.foldl g s):=by
 have:=fold_forE_at h xs.length 0 s (by omega)
 rwa [List.drop_zero] at this
theorem flat_le {α β:Type}{g:α→List β}{m:Nat}: ∀(xs:List α),(∀x∈xs,(g x).length≤m)→(xs.flatMap g).length≤xs.length*m
 | [],_=>by simp
 | x::r,h=>by
  have h1:=h x (List.mem_cons_self ..)
  have h2:=flat_le r fun y hy=>h y (List.mem_cons_of_mem _ hy)
  rw [List.flatMap_cons,List.length_append,List.length_cons,Nat.add_mul];omega
end Go.Fk
set_option linter.unusedVariables false
namespace Go.Fk
open Go
theorem sl_nil (a:Str):strLess a []=false:=by cases a<;>rfl
theorem sl_cons (a b:UInt8)(x y:Str):strLess (a::x) (b::y)=true↔a<b∨(a=b∧strLess x y=true):=by
 simp [strLess,Op.bytesLess]
theorem sl_irrefl: ∀x:Str,strLess x x=false
 | []=>rfl
 | a::x=>by
  rw [Bool.eq_false_iff]
  intro h
  rcases (sl_cons a a x x).1 h with h | ⟨_,h⟩
  ·exact absurd (UInt8.lt_iff_toNat_lt.1 h) (by omega)
  ·rw [sl_irrefl x] at h;cases h
theorem sl_trans: ∀{x y z:Str},strLess x y=true→strLess y z=true→strLess x z=true
 | _,_,[],_,h=>by rw [sl_nil] at h;cases h
 | _,[],_::_,h,_=>by rw [sl_nil] at h;cases h
 | [],_::_,_::_,_,_=>rfl
 | a::x,b::y,c::z,h,h'=>by
  rw [sl_cons] at h h' ⊢
  rcases h with h | ⟨rfl,h⟩
  ·rcases h' with h' | ⟨rfl,h'⟩
   ·exact .inl (UInt8.lt_iff_toNat_lt.2 (Nat.lt_trans (UInt8.lt_iff_toNat_lt.1 h) (UInt8.lt_iff_toNat_lt.1 h')))
   ·exact .inl h
  ·rcases h' with h' | ⟨rfl,h'⟩
   ·exact .inl h'
   ·exact .inr ⟨rfl,sl_trans h h'⟩
theorem sl_or {a b:Str}(hne:a≠b):strLess a b=true∨strLess b a=true:=by
 have:=lessTotal a b
 cases h:strLess a b
 ·rw [h] at this
  have h2:(b==a)=false:=beq_eq_false_iff_ne.2 fun e=>hne e.symm
  rw [h2,Bool.or_false] at this
  exact .inr this.symm
 ·exact .inl rfl
theorem sl_neg {a b c:Str}(h:strLess a c=true):strLess a b=true∨strLess b c=true:=by
 by_cases e:a=b
 ·subst e;exact .inr h
 ·rcases sl_or e with h1 | h1
  ·exact .inl h1
  ·exact .inr (sl_trans h1 h)
def SortS (l:List Str):Prop:=l.Pairwise fun a b=>strLess a b=true
def insS (s:Str):List Str→List Str
 | []=>[s]
 | a::l=>if strLess a s then a::insS s l else if a==s then a::l else s::a::l
theorem mem_insS {s x:Str}: ∀{l:List Str},x∈insS s l↔x=s∨x∈l
 | []=>by simp [insS]
 | a::l=>by
  unfold insS
  split
  ·rw [List.mem_cons,mem_insS (l:=l),List.mem_cons]
   constructor
   ·rintro (h1 | h1 | h1)<;>simp [h1]
   ·rintro (h1 | h1 | h1)<;>simp [h1]
  ·split
   ·rename_i h
    have:=eq_of_beq h
    subst this
    rw [List.mem_cons]
    constructor
    ·rintro (h | h)<;>simp [h]
    ·rintro (h | h | h)<;>simp [h]
   ·simp [List.mem_cons]
theorem insS_sorted {s:Str}: ∀{l:List Str},SortS l→SortS (insS s l)
 | [],_=>by simp [insS,SortS]
 | a::l,hs=>by
  have hc:=List.pairwise_cons.1 hs
  unfold insS
  cases hl:strLess a s with
  | true=>
   rw [if_pos rfl]
   refine List.pairwise_cons.2 ⟨fun x hx=>?_,insS_sorted hc.2⟩
   rcases mem_insS.1 hx with rfl | hx
   ·exact hl
   ·exact hc.1 x hx
  | false=>
   rw [if_neg (by simp)]
   cases he:(a==s) with
   | true=>exact hs
   | false=>
    have hsa:strLess s a=true:=by
     rcases sl_or (a:=a) (b:=s) (by simpa using he) with h | h
     ·rw [hl] at h;cases h
     ·exact h
    rw [if_neg (by simp)]
    refine List.pairwise_cons.2 ⟨fun x hx=>?_,hs⟩
    rcases List.mem_cons.1 hx with rfl | hx
    ·exact hsa
    ·exact sl_trans hsa (hc.1 x hx)
theorem insS_len (s:Str): ∀l:List Str,(insS s l).length≤l.length+1
 | []=>by simp [insS]
 | a::l=>by
  unfold insS
  split
  ·have:=insS_len s l;simp only [List.length_cons];omega
  ·split<;>simp only [List.length_cons]<;>omega
def rankS (s:Str):List Str→Nat
 | []=>0
 | a::l=>if strLess a s then rankS s l+1 else 0
theorem rankS_le (s:Str): ∀l:List Str,rankS s l≤l.length
 | []=>Nat.le_refl _
 | a::l=>by
  unfold rankS
  split
  ·have:=rankS_le s l;simp only [List.length_cons];omega
  ·omega
theorem insS_cut (s:Str): ∀l:List Str,insS s l=if (l[rankS s l]?).elim false (fun x=>x==s) then l else l.take (rankS s l)++[s]++l.drop (rankS s l)
 | []=>rfl
 | a::l=>by
  unfold insS rankS
  split
  ·rw [insS_cut s l,List.getElem?_cons_succ]
   split<;>simp
  ·rw [if_bif,if_bif,List.getElem?_cons_zero,Option.elim_some]
   cases (a==s)<;>rfl
theorem rank_whileS {s:Str}{xs:List Str}{f:Int→Option (Int⊕Int)}(h1: ∀(i:Nat) x,xs[i]? =some x→f (i:Int)=some (if strLess x s then .inl ((i+1:Nat):Int) else .inr (i:Int)))
  (h0:f (xs.length:Int)=some (.inr (xs.length:Int))): ∀(k i F:Nat),i+k=xs.length→k<F→whileM f F (i:Int)=some ((i+rankS s (xs.drop i):Nat):Int)
 | 0,i,F,e,hF=>by
  obtain⟨F,rfl⟩: ∃G,F=G+1:=⟨F-1,by omega⟩
  rw [whileM,show i=xs.length by omega,h0,List.drop_eq_nil_of_le (by omega)];rfl
 | k+1,i,F,e,hF=>by
  obtain⟨F,rfl⟩: ∃G,F=G+1:=⟨F-1,by omega⟩
  have hi:i<xs.length:=by omega
  rw [whileM,h1 i xs[i] (List.getElem?_eq_getElem hi),List.drop_eq_getElem_cons hi,rankS]
  cases strLess xs[i] s with
  | true=>
   simp only [if_true,Option.bind_some,Sum.elim_inl]
   rw [rank_whileS h1 h0 k (i+1) F (by omega) (by omega)]
   congr 2;omega
  | false=>simp
theorem fold_while_at {α σ τ τ':Type}{xs:List α}{e:σ→τ}{g:σ→α→σ}{I:Nat→σ→Prop}{mk:σ→Int→τ'}{f:τ'→Option (τ'⊕τ)}(h: ∀(i:Nat) x s,xs[i]? =some x→I i s→f (mk s (i:Int))=some (.inl (mk (g s x) ((i+1:Nat):Int)))∧I (i+1) (g s x))
  (h0: ∀s,I xs.length s→f (mk s (xs.length:Int))=some (.inr (e s))): ∀k i s F,i+k=xs.length→k<F→I i s→whileM f F (mk s (i:Int))=some (e ((xs.drop i).foldl g s))∧I xs.length ((xs.drop i).foldl g s)
 | 0,i,s,F,he,hF,hI=>by
  obtain⟨F,rfl⟩: ∃G,F=G+1:=⟨F-1,by omega⟩
  obtain rfl:i=xs.length:=by omega
  rw [whileM,h0 s hI,List.drop_of_length_le (Nat.le_refl _)]
  exact⟨rfl,hI⟩
 | k+1,i,s,F,he,hF,hI=>by
  obtain⟨F,rfl⟩: ∃G,F=G+1:=⟨F-1,by omega⟩
  have hi:i<xs.length:=by omega
  obtain⟨h1,h2⟩:=h i xs[i] s (List.getElem?_eq_getElem hi) hI
  rw [List.drop_eq_getElem_cons hi,List.foldl_cons,whileM,h1,Option.bind_some]
  exact fold_while_at h h0 k (i+1) _ F (by omega) (by omega) h2
theorem fold_while {α σ τ τ':Type}{xs:List α}(g:σ→α→σ)(I:Nat→σ→Prop)(e:σ→τ)(mk:σ→Int→τ'){f:τ'→Option (τ'⊕τ)}{s0:τ'}(s:σ)(hs:s0=mk s 0)(F:Nat)(hF:xs.length<F)(hI:I 0 s)(h: ∀(i:Nat) x s,xs[i]? =some x→I i s→f (mk s (i:Int))=some (.inl (mk (g s x) ((i+1:Nat):Int)))∧I (i+1) (g s x))
  (h0: ∀s,I xs.length s→f (mk s (xs.length:Int))=some (.inr (e s))):whileM f F s0=some (e (xs.foldl g s))∧I xs.length (xs.foldl g s):=by
 have:=fold_while_at h h0 xs.length 0 s F (by omega) hF hI
 rw [List.drop_zero] at this
 rw [hs];exact this
theorem sorted_same {β:Type}{lt:β→β→Bool}(irr: ∀a,lt a a=false)(tr: ∀{a b c},lt a b=true→lt b c=true→lt a c=true): ∀{a b:List β},(a.Pairwise fun x y=>lt x y=true)→(b.Pairwise fun x y=>lt x y=true)→(∀x,x∈a↔x∈b)→a=b
 | [],[],_,_,_=>rfl
 | [],y::b,_,_,h=>by have:=(h y).2 (by simp);cases this
 | x::a,[],_,_,h=>by have:=(h x).1 (by simp);cases this
 | x::a,y::b,ha,hb,h=>by
  have hac:=List.pairwise_cons.1 ha
  have hbc:=List.pairwise_cons.1 hb
  have hxy:x=y:=by
   rcases List.mem_cons.1 ((h x).1 (by simp)) with e | hx
   ·exact e
   ·rcases List.mem_cons.1 ((h y).2 (by simp)) with e | hy
    ·exact e.symm
    ·have:=tr (hbc.1 x hx) (hac.1 y hy)
     rw [irr] at this;cases this
  subst hxy
  congr 1
  refine sorted_same irr tr hac.2 hbc.2 fun z=>?_
  constructor
  ·intro hz
   rcases List.mem_cons.1 ((h z).1 (by simp [hz])) with e | hz'
   ·subst e
    have:=hac.1 z hz
    rw [irr] at this;cases this
   ·exact hz'
  ·intro hz
   rcases List.mem_cons.1 ((h z).2 (by simp [hz])) with e | hz'
   ·subst e
    have:=hbc.1 z hz
    rw [irr] at this;cases this
   ·exact hz'
theorem sortO_is {β:Type}{c:β→β→Option Int}{lt:β→β→Bool}(hlt: ∀a b,ltO c a b=lt a b)(hsm: ∀a b,(c a b).isSome=true)(irr: ∀a,lt a a=false)(tr: ∀{a b c},lt a b=true→lt b c=true→lt a c=true)(ng: ∀{a b c},lt a c=true→lt a b=true∨lt b c=true)
  {l t:List β}(hd:l.Pairwise fun a b=>lt a b=true∨lt b a=true)(ht:t.Pairwise fun x y=>lt x y=true)(hm: ∀x,x∈t↔x∈l)(hl:l.length≤1000000):sortO c l=some t:=by
 have hok:sortOk c l=true:=by
  unfold sortOk
  simp only [hlt,Bool.and_eq_true,decide_eq_true_iff,List.all_eq_true]
  refine⟨⟨⟨⟨⟨by omega,fun x _ y _=>hsm x y⟩,fun x _=>by rw [irr];rfl⟩,fun x _ y _ z _=>?_⟩,fun x _ y _ z _=>?_⟩,hd⟩
  ·cases h1:lt x y with
   | false=>simp
   | true=>
    cases h2:lt y z with
    | false=>simp
    | true=>rw [tr h1 h2];rfl
  ·cases h1:lt x y with
   | true=>simp
   | false=>
    cases h2:lt y z with
    | true=>simp
    | false=>
     have:lt x z=false:=by
      rw [Bool.eq_false_iff];intro h3
      rcases ng (b:=y) h3 with h | h
      ·rw [h1] at h;cases h
      ·rw [h2] at h;cases h
     rw [this];rfl
 unfold sortO
 rw [if_pos hok]
 congr 1
 have hperm:=List.mergeSort_perm l (fun x y=> !ltO c y x)
 refine sorted_same irr tr ?_ ht (fun x=>by rw [hperm.mem_iff,hm])
 have hsorted:=List.pairwise_mergeSort (le:=fun x y=> !ltO c y x) (fun a b c' h1 h2=>by
   simp only [hlt,Bool.not_eq_true'] at h1 h2 ⊢
   rw [Bool.eq_false_iff];intro h3
   rcases ng (b:=b) h3 with h | h
   ·rw [h2] at h;cases h
   ·rw [h1] at h;cases h) (fun a b=>by
   simp only [hlt]
   cases h:lt b a with
   | false=>rfl
   | true=>
    have:lt a b=false:=by
     rw [Bool.eq_false_iff];intro h2
     have:=tr h h2
     rw [irr] at this;cases this
    rw [this];rfl) l
 have hd':(l.mergeSort fun x y=> !ltO c y x).Pairwise fun a b=>lt a b=true∨lt b a=true:=hperm.symm.pairwise hd fun h=>h.symm
 refine(hsorted.and hd').imp fun {a b} ⟨h1,h2⟩=>?_
 simp only [hlt,Bool.not_eq_true'] at h1
 rcases h2 with h2 | h2
 ·exact h2
 ·rw [h1] at h2;cases h2
end Go.Fk
namespace Go.Fk
open Go
def lowB (b:UInt8):UInt8:=if (65:UInt8)≤b∧b≤(90:UInt8) then b+32 else b
def isW (b:UInt8):Bool:=wordB (lowB b)
theorem impl_low (F:Nat)(b:UInt8):M.impl_lower F b=some (lowB b):=by
 unfold M.impl_lower lowB
 by_cases h1:(65:UInt8)≤b<;>by_cases h2:b≤(90:UInt8)<;>simp [h1,h2]
 exact byte_all (Q:=fun b=>b+97-65=b+32) (by decide +kernel) b
theorem fold_isW (b:UInt8):(!(foldB b==0))=isW b:=byte_all (Q:=fun b=>(!(foldB b==0))=isW b) (by decide +kernel) b
theorem fold_low (b:UInt8):isW b=true→foldB b=lowB b:=byte_all (Q:=fun b=>isW b=true→foldB b=lowB b) (by decide +kernel) b
def wordsA (s:Str)(o k:Nat):List GWord:=
 match s with
 | []=>[]
 | b::r=>
  if isW b then ⟨(((b::r).takeWhile isW).map lowB).take 12,(k:Int),(o:Int),((o+((b::r).takeWhile isW).length:Nat):Int)⟩::wordsA ((b::r).drop ((b::r).takeWhile isW).length) (o+((b::r).takeWhile isW).length) (k+1)
  else wordsA r (o+1) k
termination_by s.length
decreasing_by
 ·rename_i h
  simp only [List.length_drop,List.takeWhile_cons,h,if_true,List.length_cons];omega
 ·simp
def wordsS (s:Str):List GWord:=wordsA s 0 0
theorem wordsA_nil (o k:Nat):wordsA [] o k=[]:=by rw [wordsA]
theorem wordsA_skip {s:Str}{o k p:Nat}{b:UInt8}(h:s[p]? =some b)(hb:isW b=false):wordsA (s.drop p) o k=wordsA (s.drop (p+1)) (o+1) k:=by
 have hp:=(List.getElem?_eq_some_iff.1 h)
 obtain⟨hlt,rfl⟩:=hp
 rw [List.drop_eq_getElem_cons hlt,wordsA,if_neg (by rw [hb];simp)]
theorem wordsA_word {s:Str}{o k p:Nat}{b:UInt8}(h:s[p]? =some b)(hb:isW b=true):wordsA (s.drop p) o k=
  ⟨(((s.drop p).takeWhile isW).map lowB).take 12,(k:Int),(o:Int),((o+((s.drop p).takeWhile isW).length:Nat):Int)⟩::wordsA (s.drop (p+((s.drop p).takeWhile isW).length)) (o+((s.drop p).takeWhile isW).length) (k+1):=by
 have hp:=(List.getElem?_eq_some_iff.1 h)
 obtain⟨hlt,rfl⟩:=hp
 rw [←List.drop_drop]
 generalize hd:s.drop p=t
 rw [List.drop_eq_getElem_cons hlt] at hd
 subst hd
 rw [wordsA,if_pos hb]
theorem run_len {s:Str}{p:Nat}:p+((s.drop p).takeWhile isW).length≤s.length∨s.length<p:=by
 have h1:=List.takeWhile_prefix isW (l:=s.drop p)
 have h2:=h1.length_le
 rw [List.length_drop] at h2
 omega
theorem run_at {s:Str}{p j:Nat}(hj:j<((s.drop p).takeWhile isW).length): ∃b,s[p+j]? =some b∧isW b=true∧((s.drop p).takeWhile isW)[j]? =some b:=by
 have h1:((s.drop p).takeWhile isW)[j]? =some ((s.drop p).takeWhile isW)[j]:=List.getElem?_eq_getElem hj
 refine⟨_,?_,?_,h1⟩
 ·have h2:=List.takeWhile_prefix isW (l:=s.drop p)
  have h3:=h2.getElem hj
  rw [←List.getElem?_drop,List.getElem?_eq_getElem (by have:=h2.length_le;omega),←h3]
 ·exact List.all_eq_true.1 List.all_takeWhile _ (List.getElem_mem hj)
theorem run_end {s:Str}{p:Nat}:s[p+((s.drop p).takeWhile isW).length]? =none∨∃b,s[p+((s.drop p).takeWhile isW).length]? =some b∧isW b=false:=by
 cases e:s[p+((s.drop p).takeWhile isW).length]? with
 | none=>exact .inl rfl
 | some b=>
  refine .inr ⟨b,rfl,?_⟩
  rw [←List.getElem?_drop] at e
  generalize s.drop p=t at e
  induction t with
  | nil=>simp at e
  | cons x r ih=>
   by_cases hx:isW x=true
   ·simp only [List.takeWhile_cons,hx,if_true,List.length_cons,List.getElem?_cons_succ] at e
    exact ih e
   ·simp only [List.takeWhile_cons,hx] at e
    simp at e
    subst e
    simpa using hx
theorem take_snoc {xs:List UInt8}{n:Nat}{x:UInt8}(h:xs.length<n):xs.take n++[x]=(xs++[x]).take n:=by
 rw [List.take_of_length_le (by omega),List.take_of_length_le (by simp;omega)]
theorem take_full {xs:List UInt8}{n:Nat}{x:UInt8}(h:n≤xs.length):(xs++[x]).take n=xs.take n:=by
 rw [List.take_append_of_le_length h]
theorem runs_take {f:UInt8→UInt8}{R:List UInt8}{j:Nat}{b:UInt8}(h:R[j]? =some b):(R.take (j+1)).map f=(R.take j).map f++[f b]:=by
 obtain⟨hlt,rfl⟩:=List.getElem?_eq_some_iff.1 h
 rw [List.take_succ_eq_append_getElem hlt,List.map_append];rfl
theorem whileM_eq {σ τ:Type}{f:σ→Option (σ⊕τ)}{t:τ}(Inv:Nat→σ→Prop)(n:Nat)
  (step: ∀i s,i<n→Inv i s→(∃s',f s=some (.inl s')∧Inv (i+1) s')∨f s=some (.inr t))
  (fin: ∀s,Inv n s→f s=some (.inr t))(k i:Nat)(s:σ)(F:Nat)(he:i+k=n)(hF:k<F)(hi:Inv i s):whileM f F s=some t:=by
 obtain⟨t',h1,rfl⟩:=whileM_run (Post:=fun t'=>t'=t) Inv n (fun i s hi hI=>(step i s hi hI).imp id fun h=>⟨t,h,rfl⟩) (fun s hI=>⟨t,fin s hI,rfl⟩) k i s F he hF hi
 exact h1
theorem impl_run (F:Nat)(s:Str)(p:Nat)(hp:p≤s.length)(hF:s.length+1<F)
  {f:Int×List UInt8→Option ((Int×List UInt8)⊕(Int×List UInt8))}
  (h1: ∀(q:Nat) (t:List UInt8) b,s[q]? =some b→isW b=true→t.length<12→f ((q:Int),t)=some (.inl (((q+1:Nat):Int),t++[lowB b])))
  (h1': ∀(q:Nat) (t:List UInt8) b,s[q]? =some b→isW b=true→¬t.length<12→f ((q:Int),t)=some (.inl (((q+1:Nat):Int),t)))
  (h2: ∀(q:Nat) (t:List UInt8),q≤s.length→(s[q]? =none∨∃b,s[q]? =some b∧isW b=false)→f ((q:Int),t)=some (.inr ((q:Int),t))):
  whileM f F ((p:Int),[])=some (((p+((s.drop p).takeWhile isW).length:Nat):Int),(((s.drop p).takeWhile isW).map lowB).take 12):=by
 have hrl:=run_len (s:=s) (p:=p)
 obtain⟨t,ht,e⟩:=whileM_run (f:=f) (Post:=fun t=>t=(((p+((s.drop p).takeWhile isW).length:Nat):Int),(((s.drop p).takeWhile isW).map lowB).take 12))
  (fun j st=>st=(((p+j:Nat):Int),((((s.drop p).takeWhile isW).take j).map lowB).take 12)) ((s.drop p).takeWhile isW).length
  (fun j st hj hi=>by
   subst hi
   obtain⟨b,hb,hw,hr⟩:=run_at hj
   refine .inl ⟨_,?_,rfl⟩
   by_cases hl:(((((s.drop p).takeWhile isW).take j).map lowB).take 12).length<12
   ·rw [h1 _ _ b hb hw hl]
    have:((((s.drop p).takeWhile isW).take j).map lowB).length<12:=by rw [List.length_take] at hl;omega
    rw [take_snoc this,←runs_take hr];rfl
   ·rw [h1' _ _ b hb hw hl]
    have:12≤((((s.drop p).takeWhile isW).take j).map lowB).length:=by rw [List.length_take] at hl;omega
    rw [runs_take (f:=lowB) hr,take_full this];rfl)
  (fun st hi=>by
   subst hi
   refine⟨_,h2 _ _ (by omega) run_end,?_⟩
   rw [List.take_of_length_le (Nat.le_refl _)]) ((s.drop p).takeWhile isW).length 0 ((p:Int),[]) F (by omega) (by omega) (by simp)
 rw [ht,e]
theorem spec_run (F:Nat)(s:Str)(p:Nat)(hp:p≤s.length)(hs:s.length≤2000000)(hF:s.length+1<F)
  {f:Int×List UInt8→Option ((Int×List UInt8)⊕(Int×List UInt8))}
  (h1: ∀(q:Nat) (t:List UInt8) b,s[q]? =some b→isW b=true→t.length≤2000000→f ((q:Int),t)=some (.inl (((q+1:Nat):Int),t++[lowB b])))
  (h2: ∀(q:Nat) (t:List UInt8),q≤s.length→(s[q]? =none∨∃b,s[q]? =some b∧isW b=false)→f ((q:Int),t)=some (.inr ((q:Int),t))):
  whileM f F ((p:Int),[])=some (((p+((s.drop p).takeWhile isW).length:Nat):Int),((s.drop p).takeWhile isW).map lowB):=by
 have hrl:=run_len (s:=s) (p:=p)
 obtain⟨t,ht,e⟩:=whileM_run (f:=f) (Post:=fun t=>t=(((p+((s.drop p).takeWhile isW).length:Nat):Int),((s.drop p).takeWhile isW).map lowB))
  (fun j st=>st=(((p+j:Nat):Int),(((s.drop p).takeWhile isW).take j).map lowB)) ((s.drop p).takeWhile isW).length
  (fun j st hj hi=>by
   subst hi
   obtain⟨b,hb,hw,hr⟩:=run_at hj
   refine .inl ⟨_,?_,rfl⟩
   rw [h1 _ _ b hb hw (by rw [List.length_map,List.length_take];omega),←runs_take hr];rfl)
  (fun st hi=>by
   subst hi
   refine⟨_,h2 _ _ (by omega) run_end,?_⟩
   rw [List.take_of_length_le (Nat.le_refl _)]) ((s.drop p).takeWhile isW).length 0 ((p:Int),[]) F (by omega) (by omega) (by simp)
 rw [ht,e]
theorem impl_words (F:Nat)(s:Str)(hs:s.length≤2000000)(hF:s.length+1<F):M.impl_WordsOf F s=some (if textS s then wordsS s else []):=by
 unfold M.impl_WordsOf
 rw [impl_text,Option.bind_some]
 cases ht:textS s
 ·rfl
 simp only [Bool.not_true,cond_false,if_true]
 have hg: ∀(q:Nat) b,s[q]? =some b→getI s (q:Int)=some b:=fun q b h=>by rw [getI_nat'];exact h
 have hlt: ∀(q:Nat) b,s[q]? =some b→decide ((q:Int)<(s.length:Int))=true:=fun q b h=>decide_eq_true (by have:=(List.getElem?_eq_some_iff.1 h).1;omega)
 rw [whileM_eq (t:=wordsS s) (fun i st=>∃(out:List GWord) (o:Nat),st=(out,(o:Int))∧i≤o∧o≤s.length∧out.length≤o∧out++wordsA (s.drop o) o out.length=wordsS s) s.length
  (fun i st hi ⟨out,o,e1,e2,e3,e4,e5⟩=>?_) (fun st ⟨out,o,e1,e2,e3,e4,e5⟩=>?_) s.length 0 (([]:List GWord),(0:Int)) F (by omega) (by omega) ⟨[],0,rfl,by omega,by omega,by simp,by simp [wordsS]⟩]
 ·rfl
 ·subst e1
  rcases Nat.lt_or_ge o s.length with hol | hol
  ·have hb:s[o]? =some s[o]:=List.getElem?_eq_getElem hol
   rw [hlt o _ hb,cond_true,hg o _ hb,Option.bind_some,impl_low,Option.bind_some,impl_byte,Option.bind_some]
   cases hw:isW s[o]
   ·rw [show wordB (lowB s[o])=false from hw]
    refine .inl ⟨(out,((o+1:Nat):Int)),?_,out,o+1,rfl,by omega,by omega,by omega,?_⟩
    ·rw [w64_succ' (by omega)];rfl
    ·rw [←e5,wordsA_skip hb hw]
   ·rw [show wordB (lowB s[o])=true from hw]
    have hrl:=run_len (s:=s) (p:=o)
    have hpos:0<((s.drop o).takeWhile isW).length:=by rw [List.drop_eq_getElem_cons hol,List.takeWhile_cons,if_pos hw];simp
    refine .inl ⟨(out++[⟨(((s.drop o).takeWhile isW).map lowB).take 12,(out.length:Int),(o:Int),((o+((s.drop o).takeWhile isW).length:Nat):Int)⟩],((o+((s.drop o).takeWhile isW).length:Nat):Int)),?_,_,_,rfl,by omega,by omega,by rw [List.length_append,List.length_singleton];omega,?_⟩
    ·simp only [Bool.not_true,cond_false]
     rw [impl_run F s o e3 hF ?_ ?_ ?_,Option.bind_some,Option.bind_some,catLok (by simp;omega)]
     ·rfl
     ·intro q t b hb hw hl
      rw [hlt q b hb,cond_true,hg q b hb,Option.bind_some,impl_low,Option.bind_some,impl_byte,Option.bind_some,Option.bind_some,show wordB (lowB b)=true from hw,cond_true,decide_eq_true (show (t.length:Int)<12 by omega),cond_true,Option.bind_some,impl_low,Option.bind_some,catLok (by simp;omega),Option.bind_some,w64_succ' (by have:=(List.getElem?_eq_some_iff.1 hb).1;omega)]
     ·intro q t b hb hw hl
      rw [hlt q b hb,cond_true,hg q b hb,Option.bind_some,impl_low,Option.bind_some,impl_byte,Option.bind_some,Option.bind_some,show wordB (lowB b)=true from hw,cond_true,decide_eq_false (show ¬(t.length:Int)<12 by omega),cond_false,w64_succ' (by have:=(List.getElem?_eq_some_iff.1 hb).1;omega)]
     ·intro q t hq hor
      rcases hor with hn | ⟨b,hb,hw⟩
      ·rw [decide_eq_false (show ¬(q:Int)<s.length by have:=List.getElem?_eq_none_iff.1 hn;omega)];rfl
      ·rw [hlt q b hb,cond_true,hg q b hb,Option.bind_some,impl_low,Option.bind_some,impl_byte,Option.bind_some,Option.bind_some,show wordB (lowB b)=false from hw];rfl
    ·rw [List.append_assoc,←e5,wordsA_word hb hw,List.length_append,List.length_singleton];rfl
  ·refine .inr ?_
   rw [decide_eq_false (by omega)]
   show some (Sum.inr out)=_
   rw [←e5,List.drop_of_length_le hol,wordsA_nil,List.append_nil]
 ·subst e1
  have:o=s.length:=by omega
  subst this
  rw [decide_eq_false (by omega)]
  show some (Sum.inr out)=_
  rw [←e5,List.drop_of_length_le (Nat.le_refl _),wordsA_nil,List.append_nil]
theorem spec_words (F:Nat)(s:Str)(hs:s.length≤2000000)(hF:s.length+2<F):M.spec_l1Words F s=some (wordsS s):=by
 unfold M.spec_l1Words
 have hg: ∀(q:Nat) b,s[q]? =some b→getI s (q:Int)=some b:=fun q b h=>by rw [getI_nat'];exact h
 have hlt: ∀(q:Nat) b,s[q]? =some b→decide ((q:Int)<(s.length:Int))=true:=fun q b h=>decide_eq_true (by have:=(List.getElem?_eq_some_iff.1 h).1;omega)
 have hrun: ∀(o:Nat),o≤s.length→_:=fun o ho=>spec_run F s o ho hs (by omega) (f:=fun (s55:Int×(List UInt8))=>(Option.bind ((cond (decide (s55.1<(s.length:Int))) (Option.bind (getI s s55.1) fun x81=>(Option.bind (M.spec_l1Fold F x81) fun r84=>(some (!(r84==(0:UInt8)))))) (some false)):Option Bool) fun o72=>(cond o72 (Option.bind (getI s s55.1) fun x94=>(Option.bind (M.spec_l1Fold F x94) fun r97=>(Option.bind (catL 1 s55.2 ([r97]:List UInt8)) fun x112=>(some (.inl ((w64 (s55.1+(1:Int))),x112)))))) (some (.inr (s55.1,s55.2))))))
  (fun q t b hb hw hl=>by
   show Option.bind _ _=_
   rw [hlt q b hb,cond_true,hg q b hb,Option.bind_some,spec_fold,Option.bind_some,Option.bind_some,show (!(foldB b==0))=true by rw [fold_isW];exact hw,cond_true,Option.bind_some,spec_fold,Option.bind_some,catLok (by simp;omega),Option.bind_some,w64_succ' (by have:=(List.getElem?_eq_some_iff.1 hb).1;omega),fold_low b hw])
  (fun q t hq hor=>by
   show Option.bind _ _=_
   rcases hor with hn | ⟨b,hb,hw⟩
   ·rw [decide_eq_false (show ¬(q:Int)<s.length by have:=List.getElem?_eq_none_iff.1 hn;omega)];rfl
   ·rw [hlt q b hb,cond_true,hg q b hb,Option.bind_some,spec_fold,Option.bind_some,Option.bind_some,show (!(foldB b==0))=false by rw [fold_isW];exact hw];rfl)
 rw [whileM_eq (t:=wordsS s) (fun i st=>∃(out:List GWord) (o:Nat),st=(out,(o:Int))∧i≤o∧o≤s.length+1∧out.length≤o∧out++wordsA (s.drop o) o out.length=wordsS s) s.length
  (fun i st hi ⟨out,o,e1,e2,e3,e4,e5⟩=>?_) (fun st ⟨out,o,e1,e2,e3,e4,e5⟩=>?_) s.length 0 (([]:List GWord),(0:Int)) F (by omega) (by omega) ⟨[],0,rfl,by omega,by omega,by simp,by simp [wordsS]⟩]
 ·rfl
 ·subst e1
  rcases Nat.lt_or_ge o s.length with hol | hol
  ·have hb:s[o]? =some s[o]:=List.getElem?_eq_getElem hol
   have hrl:=run_len (s:=s) (p:=o)
   rw [hlt o _ hb,cond_true,hrun o (by omega),Option.bind_some,Option.bind_some]
   simp only
   have hcut:(Option.bind ((cond (decide ((12:Int)<((((s.drop o).takeWhile isW).map lowB).length:Int))) (Option.bind (subL (((s.drop o).takeWhile isW).map lowB) 0 (12:Int)) fun x139=>(some x139)) (some (((s.drop o).takeWhile isW).map lowB))):Option (List UInt8)) fun x=>some x)=some ((((s.drop o).takeWhile isW).map lowB).take 12):=by
    by_cases hl:12<(((s.drop o).takeWhile isW).map lowB).length
    ·rw [decide_eq_true (by omega),cond_true,subL,if_pos (by omega)];rfl
    ·rw [decide_eq_false (by omega),cond_false,List.take_of_length_le (by omega)];rfl
   rw [show ∀o:Option (List UInt8),(Option.bind o fun x=>some x)=o from fun o=>by cases o<;>rfl] at hcut
   rw [hcut,Option.bind_some]
   cases hw:isW s[o]
   ·have hnil:(s.drop o).takeWhile isW=[]:=by rw [List.drop_eq_getElem_cons hol,List.takeWhile_cons,hw];simp
    rw [hnil]
    refine .inl ⟨(out,((o+1:Nat):Int)),?_,out,o+1,rfl,by omega,by omega,by omega,?_⟩
    ·simp only [List.map_nil,List.take_nil,List.length_nil,Nat.add_zero]
     rw [w64_succ' (by omega)];rfl
    ·rw [←e5,wordsA_skip hb hw]
   ·have hpos:0<((s.drop o).takeWhile isW).length:=by rw [List.drop_eq_getElem_cons hol,List.takeWhile_cons,if_pos hw];simp
    rw [decide_eq_true (by rw [List.length_take,List.length_map];omega),cond_true,catLok (by simp;omega),Option.bind_some,w64_succ' (by omega)]
    refine .inl ⟨_,rfl,_,_,rfl,by omega,by omega,by rw [List.length_append,List.length_singleton];omega,?_⟩
    have e9:wordsA (s.drop (o+((s.drop o).takeWhile isW).length+1)) (o+((s.drop o).takeWhile isW).length+1) (out.length+1)=wordsA (s.drop (o+((s.drop o).takeWhile isW).length)) (o+((s.drop o).takeWhile isW).length) (out.length+1):=by
     rcases run_end (s:=s) (p:=o) with hn | ⟨b,hb2,hw2⟩
     ·have:=List.getElem?_eq_none_iff.1 hn
      rw [List.drop_of_length_le (i:=o+((s.drop o).takeWhile isW).length+1) (by omega),List.drop_of_length_le (i:=o+((s.drop o).takeWhile isW).length) (by omega),wordsA_nil,wordsA_nil]
     ·exact(wordsA_skip hb2 hw2).symm
    rw [List.append_assoc,←e5,wordsA_word hb hw,List.length_append,List.length_singleton,e9];rfl
  ·refine .inr ?_
   rw [decide_eq_false (by omega)]
   show some (Sum.inr out)=_
   rw [←e5,List.drop_of_length_le hol,wordsA_nil,List.append_nil]
 ·subst e1
  rw [decide_eq_false (by omega)]
  show some (Sum.inr out)=_
  rw [←e5,List.drop_of_length_le (by omega),wordsA_nil,List.append_nil]
end Go.Fk
set_option linter.unusedVariables false
namespace Go.Fk
open Go
def ends:List Str:=[[105,110,103],[101,100],[101,115],[108,121],[115]]
def cutE (s e:Str):Bool:=decide (e.length+3≤s.length)&&(s.drop (s.length-e.length)==e)
def cutS (s e:Str):Str:=s.take (s.length-e.length)
def onceS (s:Str):Str:=(ends.find? (cutE s)).elim s (cutS s)
theorem ends_len {e:Str}(h:e∈ends):1≤e.length∧e.length≤3:=by
 simp only [ends,List.mem_cons,List.not_mem_nil,or_false] at h
 rcases h with rfl | rfl | rfl | rfl | rfl<;>decide
theorem once_cases (s:Str):(ends.find? (cutE s)=none∧onceS s=s)∨∃e,ends.find? (cutE s)=some e∧onceS s=cutS s e∧1≤e.length∧e.length+3≤s.length:=by
 unfold onceS
 cases h:ends.find? (cutE s) with
 | none=>exact .inl ⟨rfl,rfl⟩
 | some e=>
  have h1:=List.find?_some h
  have h2:=ends_len (List.mem_of_find?_eq_some h)
  simp only [cutE,Bool.and_eq_true,decide_eq_true_iff] at h1
  exact .inr ⟨e,rfl,rfl,h2.1,h1.1⟩
theorem once_shorter {s:Str}(h:onceS s≠s):(onceS s).length<s.length:=by
 rcases once_cases s with ⟨_,h1⟩ | ⟨e,_,h1,h2,h3⟩
 ·exact absurd h1 h
 ·rw [h1,cutS,List.length_take];omega
theorem once_ne {s e:Str}(h:ends.find? (cutE s)=some e):onceS s≠s:=by
 rcases once_cases s with ⟨h0,_⟩ | ⟨e',h1,h2,h3,h4⟩
 ·rw [h] at h0;cases h0
 ·intro h5
  have:=congrArg List.length h5
  rw [h2,cutS,List.length_take] at this;omega
theorem once_len (s:Str):(onceS s).length≤s.length:=by
 rcases once_cases s with ⟨_,h1⟩ | ⟨e,_,h1,h2,h3⟩
 ·rw [h1];exact Nat.le_refl _
 ·rw [h1,cutS,List.length_take];omega
def stemS (s:Str):Str:=if h:onceS s=s then s else stemS (onceS s)
termination_by s.length
decreasing_by exact once_shorter h
theorem stem_done {s:Str}(h:onceS s=s):stemS s=s:=by rw [stemS,dif_pos h]
theorem stem_go {s:Str}(h:onceS s≠s):stemS s=stemS (onceS s):=by rw [stemS,dif_neg h]
theorem stem_ind {P:Str→Str→Prop}(h0: ∀s,onceS s=s→P s s)(h1: ∀s t,onceS s≠s→P (onceS s) t→P s t): ∀s,P s (stemS s):=by
 intro s
 induction hn:s.length using Nat.strongRecOn generalizing s with
 | _ n ih=>
  subst hn
  by_cases h:onceS s=s
  ·rw [stem_done h];exact h0 s h
  ·rw [stem_go h];exact h1 s _ h (ih _ (once_shorter h) _ rfl)
theorem stem_len (s:Str):(stemS s).length≤s.length:=stem_ind (P:=fun s t=>t.length≤s.length) (fun s _=>Nat.le_refl _) (fun s t _ h=>Nat.le_trans h (once_len s)) s
theorem subS_all {s:Str}{k:Nat}(h:k≤s.length):subS s (k:Int) s.length=some (s.drop k):=by
 rw [subS,if_pos (by omega)]
 simp
theorem subS_to {s:Str}{k:Nat}(h:k≤s.length):subS s 0 (k:Int)=some (s.take k):=by
 rw [subS,if_pos (by omega)]
 simp
theorem hasSuffix (F:Nat)(s e:Str)(hs:s.length≤2000000):M.strings_HasSuffix F s e=some (decide (e.length≤s.length)&&(s.drop (s.length-e.length)==e)):=by
 unfold M.strings_HasSuffix M.stringslite_HasSuffix
 by_cases h:e.length≤s.length
 ·rw [decide_eq_true (show (e.length:Int)≤s.length by omega),cond_true,decide_eq_true h,w64_of ⟨by omega,by omega⟩,show (s.length:Int)-e.length=((s.length-e.length:Nat):Int) by omega,subS_all (by omega)]
  rfl
 ·rw [decide_eq_false (show ¬(e.length:Int)≤s.length by omega),cond_false,decide_eq_false h]
  rfl
theorem cut_alt (s e:Str):((decide (e.length≤s.length)&&(s.drop (s.length-e.length)==e))&&decide (e.length+3≤s.length))=cutE s e:=by
 unfold cutE
 by_cases h:e.length+3≤s.length
 ·rw [decide_eq_true h,decide_eq_true (show e.length≤s.length by omega)];simp
 ·rw [decide_eq_false h];simp
theorem spec_ends (F:Nat):M.spec_l2Ends F=some ends:=rfl
theorem spec_once (F:Nat)(s:Str)(hs:s.length≤2000000)(hF:5<F):M.spec_l2Once F s=some (onceS s):=by
 unfold M.spec_l2Once
 rw [find_while (xs:=ends) (cutE s) (fun e=>Sum.inr (cutS s e)) (e:=Sum.inl ()) F hF (fun i e he=>?_) ?_]
 ·unfold onceS
  cases ends.find? (cutE s)<;>rfl
 ·rw [spec_ends,Option.bind_some,decide_eq_false (by omega)];rfl
 ·have hi:=(List.getElem?_eq_some_iff.1 he).1
  have hel:=ends_len (List.mem_of_getElem? he)
  rw [spec_ends,Option.bind_some,decide_eq_true (by omega),cond_true,Option.bind_some,getI_nat',he,Option.bind_some]
  have hw:w64 ((s.length:Int)-(e.length:Int))=(s.length:Int)-e.length:=w64_of ⟨by omega,by omega⟩
  rw [hw]
  unfold cutE
  by_cases h:e.length+3≤s.length
  ·rw [decide_eq_true (show (3:Int)≤(s.length:Int)-e.length by omega),cond_true,decide_eq_true h,show (s.length:Int)-e.length=((s.length-e.length:Nat):Int) by omega,subS_all (by omega),Option.bind_some,Option.bind_some,Bool.true_and]
   cases s.drop (s.length-e.length)==e
   ·rw [cond_false,w64_succ' (by have:ends.length=5:=rfl;omega)];rfl
   ·rw [cond_true,subS_to (by omega)];rfl
  ·rw [decide_eq_false (show ¬(3:Int)≤(s.length:Int)-e.length by omega),cond_false,decide_eq_false h,Option.bind_some,cond_false,w64_succ' (by have:ends.length=5:=rfl;omega)];rfl
theorem spec_stem (F:Nat)(s:Str)(hs:s.length≤2000000)(hF:s.length+6<F):M.spec_l2Stem F s=some (stemS s):=by
 have key: ∀(G:Nat) (t:Str),t.length<G→t.length≤2000000→whileM (σ:=Str) (τ:=Str) (fun (s10:Str)=>(Option.bind (M.spec_l2Once F s10) fun r22=>(cond (!(r22==s10)) (Option.bind (M.spec_l2Once F s10) fun r33=>(some (.inl r33))) (some (.inr s10))))) G t=some (stemS t):=by
  intro G
  induction G with
  | zero=>intro t h;omega
  | succ G ih=>
   intro t h ht
   rw [whileM,spec_once F t ht (by omega),Option.bind_some]
   by_cases he:onceS t=t
   ·rw [he,stem_done he];simp
   ·rw [stem_go he,show (onceS t==t)=false from by simpa using he]
    simp only [Bool.not_false,cond_true,Option.bind_some,Sum.elim_inl]
    exact ih _ (by have:=once_shorter he;omega) (by have:=once_shorter he;omega)
 unfold M.spec_l2Stem
 rw [key F s (by omega) hs];rfl
theorem stem_loop {f:Str×Bool→Option ((Str×Bool)⊕Str)}(h1: ∀t:Str,t.length≤2000000→f (t,true)=some (.inl (onceS t,!(onceS t==t))))(h2: ∀t,f (t,false)=some (.inr t)):
  ∀(G:Nat) (t:Str),t.length+1<G→t.length≤2000000→whileM f G (t,true)=some (stemS t):=by
 intro G
 induction G with
 | zero=>intro t h;omega
 | succ G ih=>
  intro t h ht
  rw [whileM,h1 t ht,Option.bind_some]
  by_cases he:onceS t=t
  ·rw [he,stem_done he]
   obtain⟨G,rfl⟩: ∃H,G=H+1:=⟨G-1,by omega⟩
   rw [show (!(t==t))=false from by simp]
   simp only [Sum.elim_inl]
   rw [whileM,h2];rfl
  ·rw [stem_go he,show (onceS t==t)=false from by simpa using he]
   exact ih _ (by have:=once_shorter he;omega) (by have:=once_shorter he;omega)
theorem impl_stem (F:Nat)(s:Str)(hs:s.length≤2000000)(hF:s.length+6<F):M.impl_StemOf F s=some (if wordS s then stemS s else []):=by
 unfold M.impl_StemOf
 rw [impl_word,Option.bind_some]
 cases hw:wordS s
 ·rfl
 simp only [Bool.not_true,cond_false,if_true]
 rw [stem_loop (fun t ht=>?_) (fun t=>?_) F s (by omega) hs]
 ·rfl
 ·rw [cond_true]
  rw [show ([([105,110,103]:Str),([101,100]:Str),([101,115]:Str),([108,121]:Str),([115]:Str)]:List Str)=ends from rfl,find_from (xs:=ends) (cutE t) (fun e=>(cutS t e,true)) (fun i e he=>?_)]
  ·cases h:ends.find? (cutE t) with
   | none=>
    have:onceS t=t:=by unfold onceS;rw [h];rfl
    simp [this]
   | some e=>
    have h1:=once_ne h
    have h2:onceS t=cutS t e:=by unfold onceS;rw [h];rfl
    rw [show (onceS t==t)=false from by simpa using h1,h2];rfl
  ·have hel:=ends_len (List.mem_of_getElem? he)
   have hww:w64 ((t.length:Int)-(e.length:Int))=(t.length:Int)-e.length:=w64_of ⟨by omega,by omega⟩
   rw [getI_nat',he,Option.bind_some]
   simp only
   rw [hasSuffix F t e ht,Option.bind_some,hww,←cut_alt]
   cases hq:(decide (e.length≤t.length)&&(t.drop (t.length-e.length)==e))
   ·rfl
   ·rw [cond_true,Option.bind_some,Bool.true_and]
    by_cases h:e.length+3≤t.length
    ·rw [decide_eq_true (show (3:Int)≤(t.length:Int)-e.length by omega),decide_eq_true h,cond_true,show (t.length:Int)-e.length=((t.length-e.length:Nat):Int) by omega,subS_to (by omega)];rfl
    ·rw [decide_eq_false (show ¬(3:Int)≤(t.length:Int)-e.length by omega),decide_eq_false h];rfl
 ·rfl
end Go.Fk
set_option linter.unusedVariables false
namespace Go.Fk
open Go
theorem spec_has (F:Nat)(xs:List Str)(v:Str)(hl:xs.length≤2000000)(hF:xs.length<F):M.spec_l2Has F xs v=some (xs.any (· ==v)):=by
 unfold M.spec_l2Has
 rw [find_while (xs:=xs) (fun x=>x==v) (fun _=>Sum.inr true) (e:=Sum.inl ()) F hF (fun i x hx=>?_) ?_]
 ·rw [←List.isSome_find?]
  cases xs.find? (· ==v)<;>rfl
 ·rw [decide_eq_false (by omega)];rfl
 ·have hi:=(List.getElem?_eq_some_iff.1 hx).1
  rw [decide_eq_true (by omega),cond_true,getI_nat',hx,Option.bind_some,w64_succ' (by omega)]
  cases x==v<;>rfl
theorem str_beq (a b:Str):(a==b)=(b==a):=by
 rw [Bool.eq_iff_iff];simp only [beq_iff_eq];exact eq_comm
theorem impl_contains (F:Nat)(xs:List Str)(v:Str):M.slices_Contains_string F xs v=some (xs.any (· ==v)):=by
 unfold M.slices_Contains_string M.slices_Index_string
 rw [idx_from (xs:=xs) (fun x=>x==v) (fun i x hx=>?_)]
 ·rw [←idx_ge]
  cases xs.findIdx? (· ==v)<;>rfl
 ·rw [getI_nat',hx,Option.bind_some,str_beq v x]
  cases x==v<;>rfl
def fromOk (stops:List Str)(w:Str):Bool:=wordS w&&((stemS w==w)&& !stops.any (· ==w))
def synOk (stops:List Str)(r:GSyn):Bool:=((decide ((1:Int)≤r.From.length)&&decide ((r.From.length:Int)≤3))&&(wordS r.To&&(stemS r.To==r.To)))&&r.From.all (fromOk stops)
def ascS (xs:List Str):Bool:=pairS wordS strLess xs
def confS (c:GConf):Bool:=(decide ((c.Stops.length:Int)≤6)&&ascS c.Stops&&decide ((c.Syns.length:Int)≤4))&&c.Syns.all (synOk c.Stops)
structure ConfFit (B:Nat)(c:GConf):Prop where
 stops:c.Stops.length≤B∧∀s∈c.Stops,s.length≤B
 syns:c.Syns.length≤B∧∀r∈c.Syns,r.From.length≤B∧r.To.length≤B∧∀w∈r.From,w.length≤B
theorem word_le {s:Str}(h:wordS s=true):s.length≤12:=by
 simp only [wordS,Bool.and_eq_true,decide_eq_true_iff] at h
 exact h.2.2
theorem impl_asc (F:Nat)(xs:List Str)(hl:xs.length≤2000000):M.impl_wordsAscend F xs=some (ascS xs):=by
 unfold M.impl_wordsAscend ascS
 rw [pair_from (ok:=wordS) (lt:=strLess) (xs:=xs) (fun i x hx=>?_)]
 ·cases pairS wordS strLess xs<;>rfl
 ·have hi:=(List.getElem?_eq_some_iff.1 hx).1
  rw [getI_nat',hx,Option.bind_some,impl_word,Option.bind_some]
  cases wordS x
  ·rfl
  ·simp only [Bool.not_true,cond_false,Bool.true_and]
   rcases Nat.eq_zero_or_pos i with rfl | hp
   ·rfl
   ·rw [decide_eq_true (by omega),cond_true,w64_pred hp (by omega),getI_nat',decide_eq_false (by omega),Bool.false_or]
    have h1:i-1<xs.length:=by omega
    rw [List.getElem?_eq_getElem h1]
    simp only [Option.bind_some,Option.elim_some]
    exact(show ∀b:Bool,(bif !b then some (Sum.inr false) else some (Sum.inl ()))=some (if b=true then Sum.inl () else Sum.inr false) from fun b=>by cases b<;>rfl) _
theorem stem_in (F:Nat)(s:Str)(h:wordS s=true)(hF:20<F):M.impl_StemOf F s=some (stemS s):=by
 rw [impl_stem F s (by have:=word_le h;omega) (by have:=word_le h;omega),h];rfl
theorem impl_conf (F:Nat)(c:GConf)(h1:c.Stops.length≤2000000)(hF:20<F):M.impl_ConfOk F c=some (confS c):=by
 unfold M.impl_ConfOk confS
 rw [impl_asc F _ h1]
 by_cases h6:(c.Stops.length:Int)≤6
 case neg=>
  rw [decide_eq_false h6,decide_eq_true (by omega)];rfl
 rw [decide_eq_true h6,decide_eq_false (by omega),cond_false,Option.bind_some]
 cases ascS c.Stops
 ·rfl
 simp only [Bool.not_true,cond_false,Option.bind_some,Bool.true_and]
 by_cases h4:(c.Syns.length:Int)≤4
 case neg=>
  rw [decide_eq_false h4,decide_eq_true (by omega)];rfl
 rw [decide_eq_true h4,decide_eq_false (by omega),cond_false,Bool.true_and]
 rw [all_from (p:=synOk c.Stops) (xs:=c.Syns) (fun i r hr=>?_) c.Syns.length 0 (by omega),List.drop_zero]
 ·cases c.Syns.all (synOk c.Stops)<;>rfl
 ·rw [getI_nat',hr,Option.bind_some,withinS,Option.bind_some,synOk]
  cases decide ((1:Int)≤r.From.length)&&decide ((r.From.length:Int)≤3)
  ·rfl
  simp only [Bool.not_true,cond_false,Bool.true_and]
  rw [impl_word,Option.bind_some]
  cases hw:wordS r.To
  ·rfl
  simp only [Bool.not_true,cond_false,Bool.true_and]
  rw [stem_in F _ hw hF,Option.bind_some,Option.bind_some]
  cases stemS r.To==r.To
  ·rfl
  simp only [Bool.not_true,cond_false,Bool.true_and]
  rw [all_from (p:=fromOk c.Stops) (xs:=r.From) (fun j w hj=>?_) r.From.length 0 (by omega),List.drop_zero]
  ·cases r.From.all (fromOk c.Stops)<;>rfl
  ·rw [getI_nat',hj,Option.bind_some,impl_word,Option.bind_some,fromOk]
   cases hw2:wordS w
   ·rfl
   simp only [Bool.not_true,cond_false,Bool.true_and]
   rw [stem_in F _ hw2 hF,Option.bind_some]
   cases stemS w==w
   ·rfl
   simp only [Bool.not_true,cond_false,Bool.true_and]
   rw [impl_contains,Option.bind_some,Option.bind_some]
   cases c.Stops.any (· ==w)<;>rfl
theorem spec_word' (F:Nat)(s:Str)(B:Nat)(hs:s.length≤B)(hB:B≤2000000)(hF:B+20<F):M.spec_l1WordOk F s=some (wordS s):=
 spec_word F s (by omega) (by have h0:2000000≤maxLen:=(by decide);omega)
theorem spec_asc {xs:List Str}{F B:Nat}(hl:xs.length≤B)(hs: ∀s∈xs,s.length≤B)(hB:B≤2000000)(hF:B+20<F){f:Int→Option (Int⊕(Unit⊕Bool))}
  (h: ∀s:Int,f s=(cond (decide (s<(xs.length:Int))) (Option.bind ((Option.bind (getI xs s) fun x42=>(Option.bind (M.spec_l1WordOk F x42) fun r52=>(cond (!r52) (some true) (cond (decide ((0:Int)<s)) (Option.bind (getI xs s) fun x67=>(Option.bind (getI xs (w64 (s-(1:Int)))) fun x77=>(some (strLess x67 x77||x67==x77)))) (some false))))):Option Bool) fun o35=>(cond o35 (some (.inr (.inr false))) (some (.inl (w64 (s+(1:Int))))))) (some (.inr (.inl ()))))):
  whileM f F (0:Int)=some (if ascS xs then .inl () else .inr false):=by
 refine pair_while (ok:=wordS) (lt:=strLess) (xs:=xs) (fun i x hx=>?_) ?_ F (by omega)
 ·have hi:=(List.getElem?_eq_some_iff.1 hx).1
  rw [h,decide_eq_true (by omega),cond_true,getI_nat',hx,Option.bind_some,spec_word' F x B (hs x (List.mem_of_getElem? hx)) hB hF,Option.bind_some]
  cases wordS x
  ·rfl
  ·simp only [Bool.not_true,cond_false,Bool.true_and]
   rw [w64_succ' (by omega)]
   rcases Nat.eq_zero_or_pos i with rfl | hp
   ·rfl
   ·rw [decide_eq_true (by omega),cond_true,Option.bind_some,w64_pred hp (by omega),getI_nat',decide_eq_false (by omega),Bool.false_or]
    have h1:i-1<xs.length:=by omega
    rw [List.getElem?_eq_getElem h1]
    simp only [Option.bind_some,Option.elim_some]
    have:=lessTotal xs[i-1] x
    rw [←this]
    exact(show ∀b:Bool,(bif !b then some (Sum.inr (Sum.inr false)) else some (Sum.inl ((i+1:Nat):Int)))=some (if b=true then Sum.inl ((i+1:Nat):Int) else Sum.inr (Sum.inr false)) from fun b=>by cases b<;>rfl) _
 ·rw [h,decide_eq_false (by omega)];rfl
theorem spec_conf (F B:Nat)(c:GConf)(hc:ConfFit B c)(hB:B≤2000000)(hF:B+30<F):M.spec_l2Ok F c=some (confS c):=by
 obtain⟨⟨h1,h2⟩,h3,h4⟩:=hc
 unfold M.spec_l2Ok confS
 rw [spec_asc (xs:=c.Stops) (B:=B) h1 h2 hB (by omega) (fun _=>rfl),Option.bind_some]
 cases ascS c.Stops
 ·simp only [Bool.and_false,Bool.false_and];rfl
 rw [if_pos rfl]
 simp only [Bool.and_true]
 show Option.bind _ _=_
 show Option.bind _ _=_
 rw [all_while0 (synOk c.Stops) (xs:=c.Syns) F (by omega) (fun i r hr=>?_) ?_,Option.bind_some]
 ·cases c.Syns.all (synOk c.Stops)
  ·simp only [Bool.and_false];rfl
  ·rw [if_pos rfl]
   simp only [Bool.and_true]
   show cond _ _ _=_
   cases decide ((c.Stops.length:Int)≤6)<;>rfl
 ·rw [decide_eq_false (by omega)];rfl
 ·have hi:=(List.getElem?_eq_some_iff.1 hr).1
  obtain⟨g1,g2,g3⟩:=h4 r (List.mem_of_getElem? hr)
  rw [decide_eq_true (by omega),cond_true,getI_nat',hr,Option.bind_some]
  rw [all_while0 (fromOk c.Stops) (xs:=r.From) F (by omega) (fun j w hj=>?_) ?_,Option.bind_some,synOk]
  ·cases r.From.all (fromOk c.Stops)
   ·simp only [Bool.and_false];rfl
   ·rw [if_pos rfl]
    simp only [Bool.and_true]
    show Option.bind _ _=_
    rw [inS,Option.bind_some,w64_succ' (by omega)]
    cases decide ((1:Int)≤r.From.length)&&decide ((r.From.length:Int)≤3)
    ·rfl
    simp only [Bool.not_true,cond_false,Bool.true_and]
    rw [spec_word' F r.To B g2 hB (by omega),Option.bind_some]
    cases hw:wordS r.To
    ·rfl
    simp only [Bool.not_true,cond_false,Bool.true_and]
    rw [spec_stem F r.To (by omega) (by omega),Option.bind_some,Option.bind_some]
    cases stemS r.To==r.To<;>rfl
  ·rw [decide_eq_false (by omega)];rfl
  ·have hj2:=(List.getElem?_eq_some_iff.1 hj).1
   have hwl:=g3 w (List.mem_of_getElem? hj)
   rw [decide_eq_true (by omega),cond_true,getI_nat',hj,Option.bind_some,spec_word' F w B hwl hB (by omega),Option.bind_some,fromOk,w64_succ' (by omega)]
   cases hw2:wordS w
   ·rfl
   simp only [Bool.not_true,cond_false,Bool.true_and]
   rw [Option.bind_some,spec_stem F w (by omega) (by omega),Option.bind_some,Option.bind_some]
   cases stemS w==w
   ·rfl
   simp only [Bool.not_true,cond_false,Bool.true_and]
   rw [Option.bind_some,spec_has F c.Stops w (by omega) (by omega),Option.bind_some,Option.bind_some]
   cases c.Stops.any (· ==w)<;>rfl
end Go.Fk
set_option linter.unusedVariables false
namespace Go.Fk
open Go
theorem wordsA_ok: ∀(n:Nat) (s:Str) (o k:Nat),s.length≤n→(wordsA s o k).length≤s.length∧∀w∈wordsA s o k,wordS w.Text=true
 | n,[],o,k,_=>by rw [wordsA_nil];simp
 | 0,b::r,o,k,h=>by simp at h
 | n+1,b::r,o,k,h=>by
  rw [wordsA]
  by_cases hb:isW b=true
  ·rw [if_pos hb]
   have hl:=List.takeWhile_prefix isW (l:=b::r)
   have hle:=hl.length_le
   have hpos:0<((b::r).takeWhile isW).length:=by rw [List.takeWhile_cons,if_pos hb];simp
   have ih:=wordsA_ok n ((b::r).drop ((b::r).takeWhile isW).length) (o+((b::r).takeWhile isW).length) (k+1) (by rw [List.length_drop];omega)
   rw [List.length_drop] at ih
   refine⟨by rw [List.length_cons];omega,fun w hw=>?_⟩
   rcases List.mem_cons.1 hw with rfl | hw
   ·simp only [wordS,Bool.and_eq_true,decide_eq_true_iff,List.all_eq_true]
    refine⟨fun x hx=>?_,?_,?_⟩
    ·obtain⟨y,hy,rfl⟩:=List.mem_map.1 (List.mem_of_mem_take hx)
     exact List.all_eq_true.1 List.all_takeWhile y hy
    ·rw [List.length_take,List.length_map];omega
    ·rw [List.length_take];omega
   ·exact ih.2 w hw
  ·rw [if_neg hb]
   have ih:=wordsA_ok n r (o+1) k (by rw [List.length_cons] at h;omega)
   exact⟨by rw [List.length_cons];omega,ih.2⟩
theorem words_len (s:Str):(wordsS s).length≤s.length:=(wordsA_ok s.length s 0 0 (Nat.le_refl _)).1
theorem words_word {s:Str}{w:GWord}(h:w∈wordsS s):wordS w.Text=true:=(wordsA_ok s.length s 0 0 (Nat.le_refl _)).2 w h
def plainOne (stops:List Str)(w:GWord):List GTerm:=if !stops.any (· ==w.Text)&& !stops.any (· ==stemS w.Text) then [⟨stemS w.Text,w.At⟩] else []
def plainS (c:GConf)(s:Str):List GTerm:=(wordsS s).flatMap (plainOne c.Stops)
def beginsS (l:List GTerm)(fr:List Str):Bool:=fr.zipIdx.all fun q=>(l[q.2]?).elim false fun t=>(t.Text==q.1)&&((l[0]?).elim false fun h=>t.At==w64 (h.At+(q.2:Int)))
def better (l:List GTerm)(best:Option GSyn)(r:GSyn):Option GSyn:=if beginsS l r.From&&(best.elim true fun b=>decide (b.From.length<r.From.length)) then some r else best
def bestS (syns:List GSyn)(l:List GTerm):Option GSyn:=syns.foldl (better l) none
def rewS (syns:List GSyn):Nat→List GTerm→List GTerm
 | 0,_=>[]
 | _+1,[]=>[]
 | n+1,t::r=>match bestS syns (t::r) with
  | none=>t::rewS syns n r
  | some y=>⟨y.To,t.At⟩::rewS syns n ((t::r).drop y.From.length)
def termsS (c:GConf)(s:Str):List GTerm:=rewS c.Syns (plainS c s).length (plainS c s)
theorem plain_one_len (stops:List Str)(w:GWord):(plainOne stops w).length≤1:=by unfold plainOne;split<;>simp
theorem plain_len (c:GConf)(s:Str):(plainS c s).length≤s.length:=by
 have h1:=flat_le (g:=plainOne c.Stops) (m:=1) (wordsS s) (fun w _=>plain_one_len c.Stops w)
 have h2:=words_len s
 unfold plainS;omega
theorem best_mem {syns:List GSyn}{l:List GTerm}{y:GSyn}(h:bestS syns l=some y):y∈syns:=by
 have: ∀(ss:List GSyn) (b:Option GSyn),ss.foldl (better l) b=some y→y∈ss∨b=some y:=by
  intro ss
  induction ss with
  | nil=>intro b h;exact .inr h
  | cons x r ih=>
   intro b h
   rw [List.foldl_cons] at h
   rcases ih _ h with h1 | h1
   ·exact .inl (List.mem_cons_of_mem _ h1)
   ·unfold better at h1
    split at h1
    ·cases h1;exact .inl (List.mem_cons_self ..)
    ·exact .inr h1
 exact(this syns none h).resolve_right (by simp)
def FromPos (syns:List GSyn):Prop:=∀r∈syns,1≤r.From.length
theorem rew_fuel {syns:List GSyn}(hp:FromPos syns): ∀(n:Nat) (l:List GTerm),l.length≤n→rewS syns n l=rewS syns l.length l:=by
 intro n
 induction n using Nat.strongRecOn with
 | _ n ih=>
  intro l hl
  match n,l with
  | 0,[]=>rfl
  | 0,t::r=>simp at hl
  | n+1,[]=>rfl
  | n+1,t::r=>
   rw [List.length_cons] at hl ⊢
   simp only [rewS]
   cases hb:bestS syns (t::r) with
   | none=>simp only;rw [ih n (by omega) r (by omega)]
   | some y=>
    simp only
    have hy:=hp y (best_mem hb)
    have hd:((t::r).drop y.From.length).length≤r.length:=by rw [List.length_drop,List.length_cons];omega
    rw [ih n (by omega) _ (by omega)]
    rcases Nat.lt_or_ge r.length (n+1) with h | h
    ·by_cases hrn:r.length<n+1
     ·rw [ih r.length (by omega) _ hd]
     ·omega
    ·omega
theorem conf_pos {c:GConf}(h:confS c=true):FromPos c.Syns:=fun r hr=>by
 unfold confS at h
 rw [Bool.and_eq_true,List.all_eq_true] at h
 have:=h.2 r hr
 simp only [synOk,Bool.and_eq_true,decide_eq_true_iff] at this
 omega
theorem conf_stops {c:GConf}(h:confS c=true):c.Stops.length≤6∧c.Syns.length≤4:=by
 simp only [confS,Bool.and_eq_true,decide_eq_true_iff] at h
 omega
theorem rew_cons {syns:List GSyn}(hp:FromPos syns){l:List GTerm}{i:Nat}(hi:i<l.length):rewS syns (l.length-i) (l.drop i)=match bestS syns (l.drop i) with
  | none=>l[i]::rewS syns (l.length-(i+1)) (l.drop (i+1))
  | some y=>⟨y.To,l[i].At⟩::rewS syns (l.length-(i+y.From.length)) (l.drop (i+y.From.length)):=by
 rw [show l.length-i=(l.length-(i+1))+1 by omega]
 have hc:=List.drop_eq_getElem_cons hi
 cases hb:bestS syns (l.drop i) with
 | none=>
  rw [hc] at hb ⊢
  simp only [rewS,hb]
 | some y=>
  have hy:=hp y (best_mem hb)
  have e1:(l[i]::l.drop (i+1)).drop y.From.length=l.drop (i+y.From.length):=by rw [←hc,List.drop_drop]
  rw [hc] at hb ⊢
  simp only [rewS,hb,e1]
  rw [rew_fuel hp _ (l.drop (i+y.From.length)) (by rw [List.length_drop];omega),List.length_drop]
theorem rew_nil (syns:List GSyn)(n:Nat):rewS syns n []=[]:=by cases n<;>rfl
theorem begins_short {l:List GTerm}{fr:List Str}(h:l.length<fr.length):beginsS l fr=false:=by
 unfold beginsS
 rw [List.all_eq_false]
 refine⟨(fr[l.length],l.length),List.mem_iff_getElem?.2 ⟨l.length,by rw [List.getElem?_zipIdx,List.getElem?_eq_getElem h];simp⟩,?_⟩
 simp
theorem spec_begins (F:Nat)(l:List GTerm)(fr:List Str)(hl:l.length≤2000000)(hfr:fr.length≤2000000)(hF:fr.length<F):M.spec_l2Begins F l fr=some (beginsS l fr):=by
  unfold M.spec_l2Begins beginsS
  have hz:fr.zipIdx.length=fr.length:=by simp
  have hloop:=all_while0 (xs:=fr.zipIdx) (fun q=>(l[q.2]?).elim false fun t=>(t.Text==q.1)&&((l[0]?).elim false fun h=>t.At==w64 (h.At+(q.2:Int)))) F (by omega) (f:=fun (s17:Int)=>(cond (decide (s17<(fr.length:Int))) (Option.bind ((cond (decide ((l.length:Int)≤s17)) (some true) (Option.bind (getI l s17) fun x44=>(Option.bind (getI fr s17) fun x55=>(cond (!(x44.Text==x55)) (some true) (Option.bind (getI l s17) fun x71=>(Option.bind (getI l (0:Int)) fun x82=>(some (!(x71.At==(w64 (x82.At+s17))))))))))):Option Bool) fun o31=>(cond o31 (some (.inr (.inr false))) (some (.inl (w64 (s17+(1:Int))))))) (some (.inr (.inl ())))))
    (fun i q hq=>by
      obtain⟨hx,rfl⟩:=zipAt hq
      have hi:=(List.getElem?_eq_some_iff.1 hx).1
      show cond _ _ _=_
      rw [if_bif,decide_eq_true (by omega),cond_true,w64_succ' (by omega)]
      rcases Nat.lt_or_ge q.2 l.length with h | h
      · rw [decide_eq_false (by omega),cond_false,getI_nat',getI_nat',hx,List.getElem?_eq_getElem h,Option.bind_some,Option.bind_some]
        simp only [Option.elim_some]
        cases l[q.2].Text==q.1
        · rfl
        · simp only [Bool.not_true,cond_false,Option.bind_some,Bool.true_and]
          rw [show (0:Int)=((0:Nat):Int) from rfl,getI_nat',List.getElem?_eq_getElem (show 0<l.length by omega)]
          simp only [Option.bind_some,Option.elim_some]
          cases l[q.2].At==w64 (l[0].At+(q.2:Int))<;>rfl
      · rw [decide_eq_true (by omega),cond_true,List.getElem?_eq_none h];rfl)
    (by show cond _ _ _=_
        rw [hz,decide_eq_false (by omega)];rfl)
  rw [hloop]
  cases fr.zipIdx.all _<;>rfl
theorem spec_syn (F:Nat)(c:GConf)(l:List GTerm)(hl:l.length≤2000000)(hs:c.Syns.length≤2000000)(hfr: ∀r∈c.Syns,r.From.length≤2000000∧r.From.length<F)(hF:c.Syns.length<F):
  ∃k:Int,M.spec_l2Syn F c l=some k∧((k<0∧bestS c.Syns l=none)∨∃y,0≤k∧getI c.Syns k=some y∧bestS c.Syns l=some y):=by
 unfold M.spec_l2Syn
 have key: ∀(k i:Nat) (G:Nat) (b:Int) (m:Option GSyn),i+k=c.Syns.length→k<G→((b<0∧m=none)∨∃y,0≤b∧getI c.Syns b=some y∧m=some y)→
   ∃b':Int,whileM (σ:=Int×Int) (τ:=Int) (fun (s25:Int×Int)=>(cond (decide (s25.2<(c.Syns.length:Int))) (Option.bind ((Option.bind (getI c.Syns s25.2) fun x47=>(Option.bind (M.spec_l2Begins F l x47.From) fun r61=>(cond r61 (cond (decide (s25.1<(0:Int))) (some true) (Option.bind (getI c.Syns s25.2) fun x76=>(Option.bind (getI c.Syns s25.1) fun x90=>(some (decide ((x90.From.length:Int)<(x76.From.length:Int))))))) (some false)))):Option Bool) fun o40=>(cond o40 (some (.inl (s25.2,(w64 (s25.2+(1:Int)))))) (some (.inl (s25.1,(w64 (s25.2+(1:Int)))))))) (some (.inr s25.1)))) G (b,(i:Int))=some b'∧
    ((b'<0∧(c.Syns.drop i).foldl (better l) m=none)∨∃y,0≤b'∧getI c.Syns b'=some y∧(c.Syns.drop i).foldl (better l) m=some y):=by
  intro k
  induction k with
  | zero=>
   intro i G b m hi hG hb
   obtain⟨G,rfl⟩: ∃H,G=H+1:=⟨G-1,by omega⟩
   refine⟨b,?_,?_⟩
   ·rw [whileM]
    simp only
    rw [decide_eq_false (by omega)];rfl
   ·rw [List.drop_of_length_le (by omega)];exact hb
  | succ k ih=>
   intro i G b m hi hG hb
   obtain⟨G,rfl⟩: ∃H,G=H+1:=⟨G-1,by omega⟩
   have hlt:i<c.Syns.length:=by omega
   have hat:getI c.Syns (i:Int)=some c.Syns[i]:=getI_at hlt
   have hmem:c.Syns[i]∈c.Syns:=List.getElem_mem hlt
   rw [List.drop_eq_getElem_cons hlt,List.foldl_cons,whileM]
   simp only
   rw [decide_eq_true (by omega),cond_true,hat,Option.bind_some,spec_begins F l _ hl (hfr _ hmem).1 (hfr _ hmem).2,Option.bind_some,w64_succ' (by omega)]
   cases hbg:beginsS l c.Syns[i].From
   ·have e:better l m c.Syns[i]=m:=by unfold better;rw [hbg];simp
    rw [e]
    exact ih (i+1) G b m (by omega) (by omega) hb
   ·rw [cond_true]
    rcases hb with ⟨h1,rfl⟩ | ⟨y,h1,h2,rfl⟩
    ·have e:better l none c.Syns[i]=some c.Syns[i]:=by unfold better;rw [hbg];simp
     rw [decide_eq_true h1,cond_true,Option.bind_some,cond_true,e]
     exact ih (i+1) G _ _ (by omega) (by omega) (.inr ⟨_,by omega,hat,rfl⟩)
    ·rw [decide_eq_false (by omega),cond_false,h2,Option.bind_some,Option.bind_some,Option.bind_some]
     by_cases hlen:y.From.length<c.Syns[i].From.length
     ·have e:better l (some y) c.Syns[i]=some c.Syns[i]:=by unfold better;rw [hbg];simp [hlen]
      rw [decide_eq_true (by omega),cond_true,e]
      exact ih (i+1) G _ _ (by omega) (by omega) (.inr ⟨_,by omega,hat,rfl⟩)
     ·have e:better l (some y) c.Syns[i]=some y:=by unfold better;rw [hbg];simp [hlen]
      rw [decide_eq_false (by omega),cond_false,e]
      exact ih (i+1) G _ _ (by omega) (by omega) (.inr ⟨_,h1,h2,rfl⟩)
 obtain⟨b',h1,h2⟩:=key c.Syns.length 0 F (-1) none (by omega) hF (.inl ⟨by omega,rfl⟩)
 rw [List.drop_zero] at h2
 refine⟨b',?_,h2⟩
 rw [show (0:Int)=((0:Nat):Int) from rfl] at *
 rw [h1];rfl
theorem and_fold (xs:List (Str×Nat))(p:Str×Nat→Bool): ∀b:Bool,xs.foldl (fun s x=>s&&p x) b=(b&&xs.all p):=by
 induction xs with
 | nil=>intro b;simp
 | cons x r ih=>intro b;rw [List.foldl_cons,ih,List.all_cons,Bool.and_assoc]
theorem impl_rule (F:Nat)(c:GConf)(l:List GTerm)(at_:Nat)(hl:l.length≤2000000)(ha:at_<l.length)(hfr: ∀r∈c.Syns,r.From.length≤2000000):M.impl_ruleAt F c l (at_:Int)=some (bestS c.Syns (l.drop at_)):=by
 unfold M.impl_ruleAt bestS
 rw [fold_forE (better (l.drop at_)) (fun i r b hr=>?_)]
 ·rfl
 ·rw [getI_nat',hr,Option.bind_some,w64_of ⟨by omega,by omega⟩]
  have hrl:=hfr r (List.mem_of_getElem? hr)
  by_cases hlen:(l.length:Int)-at_<r.From.length
  ·rw [decide_eq_true hlen,cond_true,Option.bind_some,cond_true]
   unfold better
   rw [begins_short (by rw [List.length_drop];omega)];simp
  ·rw [decide_eq_false hlen,cond_false]
   have hfits:(forE (fun (i106:Nat) (s102:Bool)=>(Option.bind (getI r.From ((i106:Nat):Int)) fun x115=>(Option.bind (getI l (w64 ((at_:Int)+((i106:Nat):Int)))) fun x125=>(cond s102 (cond (x125.Text==x115) (Option.bind (getI l (at_:Int)) fun x146=>(some (x125.At==(w64 (x146.At+((i106:Nat):Int)))))) (some false)) (some false))))) r.From.length 0 true)=some (beginsS (l.drop at_) r.From):=by
    have hz:r.From.length=r.From.zipIdx.length:=by simp
    rw [hz,fold_forE (xs:=r.From.zipIdx) (fun s q=>s&&(((l.drop at_)[q.2]?).elim false fun t=>(t.Text==q.1)&&(((l.drop at_)[0]?).elim false fun h=>t.At==w64 (h.At+(q.2:Int))))) (fun i q s hq=>?_),and_fold,Bool.true_and]
    ·rfl
    ·obtain⟨hx,rfl⟩:=zipAt hq
     have hi:=(List.getElem?_eq_some_iff.1 hx).1
     rw [getI_nat',hx,Option.bind_some,w64_of ⟨by omega,by omega⟩,show (at_:Int)+(q.2:Int)=((at_+q.2:Nat):Int) by omega,getI_nat',getI_nat',List.getElem?_drop,List.getElem?_drop,Nat.add_zero,List.getElem?_eq_getElem (show at_+q.2<l.length by omega),List.getElem?_eq_getElem ha,Option.bind_some]
     simp only [Option.elim_some,Option.bind_some]
     cases s
     ·rfl
     ·cases l[at_+q.2].Text==q.1<;>rfl
   rw [hfits]
   unfold better
   rw [if_bif]
   cases b with
   | none=>
    simp only [Option.isSome_none,cond_false,Option.bind_some,Option.elim_none,Bool.and_true]
    cases beginsS (l.drop at_) r.From<;>rfl
   | some y=>
    simp only [Option.isSome_some,cond_true,Option.bind_some,Option.elim_some]
    by_cases hy:r.From.length≤y.From.length
    ·rw [decide_eq_true (by omega),decide_eq_false (by omega)];simp
    ·rw [decide_eq_false (by omega),decide_eq_true (by omega)]
     cases beginsS (l.drop at_) r.From<;>rfl
end Go.Fk
set_option linter.unusedVariables false
namespace Go.Fk
open Go
theorem conf_from {c:GConf}(h:confS c=true): ∀r∈c.Syns,r.From.length≤3:=fun r hr=>by
 unfold confS at h
 rw [Bool.and_eq_true,List.all_eq_true] at h
 have:=h.2 r hr
 simp only [synOk,Bool.and_eq_true,decide_eq_true_iff] at this
 omega
theorem rew_len {syns:List GSyn}: ∀(n:Nat) (l:List GTerm),(rewS syns n l).length≤n
 | 0,l=>by rw [rewS];simp
 | n+1,[]=>by rw [rewS];simp
 | n+1,t::r=>by
  simp only [rewS]
  cases bestS syns (t::r) with
  | none=>simp only [List.length_cons];have:=rew_len (syns:=syns) n r;omega
  | some y=>simp only [List.length_cons];have:=rew_len (syns:=syns) n ((t::r).drop y.From.length);omega
theorem terms_len (c:GConf)(s:Str):(termsS c s).length≤s.length:=by
 have h1:=rew_len (syns:=c.Syns) (plainS c s).length (plainS c s)
 have h2:=plain_len c s
 unfold termsS;omega
theorem impl_terms (F:Nat)(c:GConf)(s:Str)(hs:s.length≤2000000)(hc:c.Stops.length≤2000000)(hF:s.length+30<F):M.impl_TermsOf F c s=some (if confS c&&textS s then termsS c s else []):=by
 unfold M.impl_TermsOf
 rw [impl_conf F c hc (by omega),Option.bind_some,if_bif]
 cases hcs:confS c
 ·rfl
 simp only [Bool.not_true,cond_false,Bool.true_and]
 rw [impl_text,Option.bind_some,Option.bind_some]
 cases hts:textS s
 ·rfl
 simp only [Bool.not_true,cond_false,cond_true]
 rw [impl_words F s hs (by omega),hts,if_pos rfl,Option.bind_some]
 have hpl:=plain_len c s
 rw [fm_forE (plainOne c.Stops) 2000000 (fun i w acc hw hB=>?_) [] (by rw [List.nil_append];unfold plainS at hpl;omega),List.nil_append,Option.bind_some,Option.bind_some]
 ·have hfold:(wordsS s).flatMap (plainOne c.Stops)=plainS c s:=rfl
  rw [hfold]
  have hp:=conf_pos hcs
  have hfr:=conf_from hcs
  obtain⟨l,hl⟩: ∃l,l=plainS c s:=⟨_,rfl⟩
  rw [←hl] at hpl ⊢
  rw [whileM_eq (t:=rewS c.Syns l.length l) (fun i st=>∃(out:List GTerm) (o:Nat),st=(out,(o:Int))∧i≤o∧out.length≤o∧o≤l.length+3∧out++rewS c.Syns (l.length-o) (l.drop o)=rewS c.Syns l.length l) l.length
   (fun i st hi ⟨out,o,e1,e2,e3,e4,e5⟩=>?_) (fun st ⟨out,o,e1,e2,e3,e4,e5⟩=>?_) l.length 0 (([]:List GTerm),(0:Int)) F (by omega) (by omega) ⟨[],0,rfl,by omega,by simp,by omega,by simp⟩]
  ·rw [hl];rfl
  ·subst e1
   rcases Nat.lt_or_ge o l.length with hol | hol
   ·refine .inl ?_
    rw [decide_eq_true (by omega),cond_true,impl_rule F c l o (by omega) hol (fun r hr=>by have:=hfr r hr;omega),Option.bind_some,getI_nat',List.getElem?_eq_getElem hol]
    have hr:=rew_cons hp hol
    cases hb:bestS c.Syns (l.drop o) with
    | none=>
     rw [hb] at hr
     simp only [Option.isNone_none,cond_true,Option.bind_some] at hr ⊢
     rw [catLok (by simp;omega),Option.bind_some,w64_succ' (by omega)]
     exact⟨_,rfl,_,_,rfl,by omega,by rw [List.length_append,List.length_singleton];omega,by omega,by rw [List.append_assoc,←e5,hr];rfl⟩
    | some y=>
     rw [hb] at hr
     have hy:=hp y (best_mem hb)
     have hy3:=hfr y (best_mem hb)
     simp only [Option.isNone_some,cond_false,Option.bind_some] at hr ⊢
     rw [catLok (by simp;omega),Option.bind_some,show (o:Int)+(y.From.length:Int)=((o+y.From.length:Nat):Int) by omega,w64_of ⟨by omega,by omega⟩]
     exact⟨_,rfl,_,_,rfl,by omega,by rw [List.length_append,List.length_singleton];omega,by omega,by rw [List.append_assoc,←e5,hr];rfl⟩
   ·refine .inr ?_
    rw [decide_eq_false (by omega)]
    show some (Sum.inr out)=_
    rw [←e5,List.drop_of_length_le hol,rew_nil,List.append_nil]
  ·subst e1
   rw [decide_eq_false (by omega)]
   show some (Sum.inr out)=_
   rw [←e5,List.drop_of_length_le (by omega),rew_nil,List.append_nil]
 ·have hww:=words_word (List.mem_of_getElem? hw)
  rw [getI_nat',hw,Option.bind_some,stem_in F _ hww (by omega),Option.bind_some,impl_contains,Option.bind_some,impl_contains]
  unfold plainOne at hB ⊢
  revert hB
  rw [if_bif]
  cases c.Stops.any (· ==w.Text)
  ·simp only [Bool.not_false,cond_true,Option.bind_some,Bool.true_and]
   cases c.Stops.any (· ==stemS w.Text)
   ·intro hB
    simp only [Bool.not_false,cond_true] at hB ⊢
    rw [catLok (by simp at hB ⊢;omega)];rfl
   ·intro _;simp
  ·intro _;simp
theorem spec_plain (F:Nat)(c:GConf)(s:Str)(hs:s.length≤2000000)(hc:c.Stops.length≤2000000)(hF:s.length+30<F)(hF2:c.Stops.length<F):M.spec_l2Plain F c s=some (plainS c s):=by
 unfold M.spec_l2Plain
 have hpl:=plain_len c s
 have hwl:=words_len s
 rw [spec_words F s hs (by omega),Option.bind_some]
 rw [fm_while (xs:=wordsS s) (plainOne c.Stops) 2000000 F (by omega) (fun i w acc hw hB=>?_) (fun acc=>?_) [] (by rw [List.nil_append];unfold plainS at hpl;omega),List.nil_append]
 ·rfl
 ·have hi:=(List.getElem?_eq_some_iff.1 hw).1
  have hww:=words_word (List.mem_of_getElem? hw)
  have h12:=word_le hww
  have hst:=stem_len w.Text
  rw [decide_eq_true (by omega),cond_true,getI_nat',hw,Option.bind_some,spec_stem F _ (by omega) (by omega),Option.bind_some,w64_succ' (by omega),Option.bind_some,spec_has F _ _ hc hF2,Option.bind_some,spec_has F _ _ hc hF2]
  unfold plainOne at hB ⊢
  revert hB
  rw [if_bif]
  cases c.Stops.any (· ==w.Text)
  ·simp only [Bool.not_false,cond_true,Option.bind_some,Bool.true_and]
   cases c.Stops.any (· ==stemS w.Text)
   ·intro hB
    simp only [Bool.not_false,cond_true] at hB ⊢
    rw [catLok (by simp at hB ⊢;omega)];rfl
   ·intro _;simp
  ·intro _;simp
 ·rw [decide_eq_false (by omega)];rfl
theorem subL_tail {α:Type}{xs:List α}{k:Nat}(h:k≤xs.length):subL xs (k:Int) xs.length=some (xs.drop k):=by
 rw [subL,if_pos (by omega)];simp
theorem begins_len {l:List GTerm}{fr:List Str}(h:beginsS l fr=true):fr.length≤l.length:=by
 rcases Nat.lt_or_ge l.length fr.length with h1 | h1
 ·rw [begins_short h1] at h;cases h
 ·exact h1
theorem best_begins {syns:List GSyn}{l:List GTerm}{y:GSyn}(h:bestS syns l=some y):beginsS l y.From=true:=by
 have: ∀(ss:List GSyn) (b:Option GSyn),(∀z,b=some z→beginsS l z.From=true)→∀z,ss.foldl (better l) b=some z→beginsS l z.From=true:=by
  intro ss
  induction ss with
  | nil=>intro b hb z h;exact hb z h
  | cons x r ih=>
   intro b hb z h
   rw [List.foldl_cons] at h
   refine ih _ (fun z hz=>?_) z h
   unfold better at hz
   split at hz
   ·rename_i hc
    cases hz
    simp only [Bool.and_eq_true] at hc
    exact hc.1
   ·exact hb z hz
 exact this syns none (by simp) y h
theorem spec_terms (F:Nat)(c:GConf)(s:Str)(hcs:confS c=true)(hs:s.length≤2000000)(hF:s.length+30<F):M.spec_l2Terms F c s=some (termsS c s):=by
 unfold M.spec_l2Terms
 have hst:=conf_stops hcs
 have hp:=conf_pos hcs
 have hfr:=conf_from hcs
 rw [spec_plain F c s hs (by omega) (by omega) (by omega),Option.bind_some]
 have hpl:=plain_len c s
 unfold termsS
 obtain⟨l,hl⟩: ∃l,l=plainS c s:=⟨_,rfl⟩
 rw [←hl] at hpl ⊢
 rw [whileM_eq (t:=rewS c.Syns l.length l) (fun i st=>∃(out:List GTerm) (o:Nat),st=(out,l.drop o)∧i≤o∧out.length≤o∧o≤l.length+3∧out++rewS c.Syns (l.length-o) (l.drop o)=rewS c.Syns l.length l) l.length
  (fun i st hi ⟨out,o,e1,e2,e3,e4,e5⟩=>?_) (fun st ⟨out,o,e1,e2,e3,e4,e5⟩=>?_) l.length 0 (([]:List GTerm),l) F (by omega) (by omega) ⟨[],0,rfl,by omega,by simp,by omega,by simp⟩]
 ·rfl
 ·subst e1
  rcases Nat.lt_or_ge o l.length with hol | hol
  ·refine .inl ?_
   have hdl:(l.drop o).length=l.length-o:=List.length_drop
   have hd0:(l.drop o)[0]? =some l[o]:=by rw [List.getElem?_drop,Nat.add_zero];exact List.getElem?_eq_getElem hol
   have h00:getI (l.drop o) (0:Int)=some l[o]:=by rw [show (0:Int)=((0:Nat):Int) from rfl,getI_nat'];exact hd0
   obtain⟨k,hk,hor⟩:=spec_syn F c (l.drop o) (by omega) (by omega) (fun r hr=>by have:=hfr r hr;omega) (by omega)
   rw [decide_eq_true (by simp only;omega),cond_true,hk,Option.bind_some,h00]
   have hr:=rew_cons hp hol
   rcases hor with ⟨h1,hb⟩ | ⟨y,h1,h2,hb⟩
   ·rw [hb] at hr
    rw [decide_eq_true h1,cond_true,Option.bind_some,catLok (by simp;omega),Option.bind_some]
    simp only
    rw [show (1:Int)=((1:Nat):Int) from rfl,subL_tail (by omega),Option.bind_some,List.drop_drop]
    exact⟨_,rfl,_,_,rfl,by omega,by rw [List.length_append,List.length_singleton];omega,by omega,by rw [List.append_assoc,←e5,hr];rfl⟩
   ·rw [hb] at hr
    have hy:=hp y (best_mem hb)
    have hy3:=hfr y (best_mem hb)
    have hyl:=begins_len (best_begins hb)
    rw [decide_eq_false (by omega),cond_false,h2,Option.bind_some,Option.bind_some,catLok (by simp;omega),Option.bind_some,Option.bind_some]
    simp only
    rw [subL_tail (by omega),Option.bind_some,List.drop_drop]
    exact⟨_,rfl,_,_,rfl,by omega,by rw [List.length_append,List.length_singleton];omega,by omega,by rw [List.append_assoc,←e5,hr];rfl⟩
  ·refine .inr ?_
   rw [List.drop_of_length_le hol]
   show some (Sum.inr out)=_
   rw [←e5,List.drop_of_length_le hol,rew_nil,List.append_nil]
 ·subst e1
  rw [List.drop_of_length_le (by omega)]
  show some (Sum.inr out)=_
  rw [←e5,List.drop_of_length_le (by omega),rew_nil,List.append_nil]
end Go.Fk
