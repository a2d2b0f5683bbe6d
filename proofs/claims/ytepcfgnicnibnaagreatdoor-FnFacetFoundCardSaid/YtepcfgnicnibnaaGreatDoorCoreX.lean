/-
  Sorting does not hang on the order of what is sorted, where the order parts all. Of no program.
-/
import Derived.Test.YtepcfgnicnibnaaGreatDoorCoreAL
set_option linter.unusedVariables false
namespace Go.Fk
open Go
theorem a8a {β:Type}{lt:β→β→Bool}{S:β→Prop}(irr: ∀a,S a→lt a a=false)(tr: ∀{a b c},S a→S b→S c→lt a b=true→lt b c=true→lt a c=true): ∀{a b:List β},(∀x∈a,S x)→(a.Pairwise fun x y=>lt x y=true)→(b.Pairwise fun x y=>lt x y=true)→(∀x,x∈a↔x∈b)→a=b
 | [],[],_,_,_,_=>rfl
 | [],y::b,_,_,_,h=>by have:=(h y).2 (by simp);cases this
 | x::a,[],_,_,_,h=>by have:=(h x).1 (by simp);cases this
 | x::a,y::b,hS,ha,hb,h=>by
  have hac:=List.pairwise_cons.1 ha
  have hbc:=List.pairwise_cons.1 hb
  have sx:=hS x (by simp)
  have sy:=hS y ((h y).2 (by simp))
  have hxy:x=y:=by
   rcases List.mem_cons.1 ((h x).1 (by simp)) with e | hx
   ·exact e
   ·rcases List.mem_cons.1 ((h y).2 (by simp)) with e | hy
    ·exact e.symm
    ·have:=tr sy sx sy (hbc.1 x hx) (hac.1 y hy)
     rw [irr y sy] at this;cases this
  subst hxy
  congr 1
  refine a8a irr tr (fun z hz=>hS z (by simp [hz])) hac.2 hbc.2 fun z=>?_
  constructor
  ·intro hz
   rcases List.mem_cons.1 ((h z).1 (by simp [hz])) with e | hz'
   ·subst e
    have:=hac.1 z hz
    rw [irr z sx] at this;cases this
   ·exact hz'
  ·intro hz
   rcases List.mem_cons.1 ((h z).2 (by simp [hz])) with e | hz'
   ·subst e
    have:=hbc.1 z hz
    rw [irr z sx] at this;cases this
   ·exact hz'
theorem b5K {β:Type}{le:β→β→Bool}(l:List β)(tr: ∀a b c,a∈l→b∈l→c∈l→le a b=true→le b c=true→le a c=true)(tot: ∀a b,a∈l→b∈l→(le a b||le b a)=true):(l.mergeSort le).Pairwise fun a b=>le a b=true:=by
 have h1:=List.pairwise_mergeSort (le:=fun (a b:{x//x∈l})=>le a.1 b.1) (fun a b c=>tr a.1 b.1 c.1 a.2 b.2 c.2) (fun a b=>tot a.1 b.1 a.2 b.2) l.attach
 have h2:(l.attach.mergeSort fun a b=>le a.1 b.1).map Subtype.val=l.mergeSort le:=by
  rw [List.map_mergeSort (s:=le) (f:=Subtype.val) (fun a _ b _=>rfl),List.attach_map_subtype_val]
 rw [←h2]
 exact List.pairwise_map.2 h1
theorem b8D {β:Type}{c:β→β→Option Int}{l l':List β}(hp:l.Perm l'){r:List β}(h:a4R c l=some r):a4R c l'=some r:=by
 unfold a4R at h
 split at h
 case isFalse=>cases h
 rename_i hok
 simp only [a6i,l8,decide_eq_true_iff,List.all_eq_true] at hok
 obtain⟨⟨⟨⟨⟨k1,k2⟩,k3⟩,k4⟩,k5⟩,k6⟩:=hok
 have hm: ∀x,x∈l'→x∈l:=fun x hx=>hp.mem_iff.2 hx
 have irr: ∀a,a∈l→ltO c a a=false:=fun a ha=>by have:=k3 a ha;simpa using this
 have tr: ∀{a b d},a∈l→b∈l→d∈l→ltO c a b=true→ltO c b d=true→ltO c a d=true:=fun {a b d} ha hb hd h1 h2=>by
  have:=k4 a ha b hb d hd
  rw [h1,h2] at this
  simpa using this
 have ng: ∀{a b d},a∈l→b∈l→d∈l→ltO c a b=false→ltO c b d=false→ltO c a d=false:=fun {a b d} ha hb hd h1 h2=>by
  have:=k5 a ha b hb d hd
  rw [h1,h2] at this
  simpa using this
 have hok':a6i c l'=true:=by
  simp only [a6i,l8,decide_eq_true_iff,List.all_eq_true]
  exact⟨⟨⟨⟨⟨by rw [←hp.length_eq];exact k1,fun x hx y hy=>k2 x (hm x hx) y (hm y hy)⟩,fun x hx=>k3 x (hm x hx)⟩,fun x hx y hy z hz=>k4 x (hm x hx) y (hm y hy) z (hm z hz)⟩,fun x hx y hy z hz=>k5 x (hm x hx) y (hm y hy) z (hm z hz)⟩,hp.pairwise k6 fun h=>h.symm⟩
 unfold a4R
 rw [if_pos hok',←h]
 congr 1
 have ord: ∀s:List β,s.Perm l→(s.mergeSort fun x y=> !ltO c y x).Pairwise fun a b=>ltO c a b=true:=fun s hs=>by
  have hsm: ∀x,x∈s→x∈l:=fun x hx=>hs.mem_iff.1 hx
  have h1:=b5K (le:=fun x y=> !ltO c y x) s (fun a b d ha hb hd h1 h2=>by
   have h1:ltO c b a=false:=by simpa using h1
   have h2:ltO c d b=false:=by simpa using h2
   rw [ng (hsm d hd) (hsm b hb) (hsm a ha) h2 h1];rfl) (fun a b ha hb=>by
   cases h1:ltO c b a
   ·rfl
   ·cases h2:ltO c a b
    ·rfl
    ·have:=tr (hsm a ha) (hsm b hb) (hsm a ha) h2 h1
     rw [irr a (hsm a ha)] at this;cases this)
  have hps:=List.mergeSort_perm s (fun x y=> !ltO c y x)
  have h6:(s.mergeSort fun x y=> !ltO c y x).Pairwise fun a b=>ltO c a b=true∨ltO c b a=true:=(hps.trans hs).symm.pairwise k6 fun h=>h.symm
  refine(h1.and h6).imp fun {a b} ⟨q1,q2⟩=>?_
  have q1:ltO c b a=false:=by simpa using q1
  rcases q2 with q2 | q2
  ·exact q2
  ·rw [q1] at q2;cases q2
 have p1:=List.mergeSort_perm l (fun x y=> !ltO c y x)
 have p2:=List.mergeSort_perm l' (fun x y=> !ltO c y x)
 exact a8a (S:=fun x=>x∈l) irr tr (fun x hx=>hm x (p2.mem_iff.1 hx)) (ord l' hp.symm) (ord l (List.Perm.refl _)) fun x=>by rw [p1.mem_iff,p2.mem_iff];exact hp.mem_iff.symm
end Go.Fk
