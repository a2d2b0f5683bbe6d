/-
  Facets as pairs (number, how many): putting in order, sorting by how many. Of no program.
-/
import Derived.Test.YtepcfgnicnibnaaGreatDoorLawCount
import Derived.Test.YtepcfgnicnibnaaGreatDoorLawBase
set_option linter.unusedVariables false
namespace Go.Fk
open Go
def ltF (a b:Int×Int):Bool:=decide (b.2<a.2)||(a.2==b.2&&decide (a.1<b.1))
theorem a4u (a b:Int×Int):ltF a b=true↔b.2<a.2∨(a.2=b.2∧a.1<b.1):=by simp [ltF]
theorem b9i (a:Int×Int):ltF a a=false:=by
 rw [Bool.eq_false_iff];intro h;have:=(a4u a a).1 h;omega
theorem c14 {a b c:Int×Int}(h:ltF a b=true)(h':ltF b c=true):ltF a c=true:=by
 rw [a4u] at h h' ⊢;omega
theorem c48 {a b c:Int×Int}(h:ltF a c=true):ltF a b=true∨ltF b c=true:=by
 rw [a4u] at h;rw [a4u,a4u];omega
theorem c49 {a b:Int×Int}(h:a.1≠b.1):ltF a b=true∨ltF b a=true:=by
 rw [a4u,a4u];omega
def UpF (l:List (Int×Int)):Prop:=l.Pairwise fun a b=>a.1<b.1
theorem UpF.apart {l:List (Int×Int)}(h:UpF l):l.Pairwise fun a b=>a.1≠b.1:=h.imp fun {a b} k e=>by omega
def b4g (n:Int):List (Int×Int)→List (Int×Int)
 | []=>[(n,1)]
 | p::r=>if p.1<n then p::b4g n r else if p.1=n then (n,p.2+1)::r else (n,1)::p::r
theorem b3y {n:Int}: ∀{l:List (Int×Int)},UpF l→∀p,p∈b4g n l↔p=(n,a1s l n+1)∨(p∈l∧p.1≠n)
 | [],_,p=>by simp [b4g,a1s]
 | q::r,hd,p=>by
  have hc:=List.pairwise_cons.1 hd
  unfold b4g
  by_cases h1:q.1<n
  ·have hq:(q.1==n)=false:=beq_eq_false_iff_ne.2 (by omega)
   have hl:a1s (q::r) n=a1s r n:=by unfold a1s;rw [List.find?_cons,hq]
   rw [if_pos h1,List.mem_cons,b3y hc.2,hl,List.mem_cons]
   constructor
   ·rintro (rfl | h | ⟨h,h2⟩)
    ·exact .inr ⟨.inl rfl,by omega⟩
    ·exact .inl h
    ·exact .inr ⟨.inr h,h2⟩
   ·rintro (h | ⟨rfl | h,h2⟩)
    ·exact .inr (.inl h)
    ·exact .inl rfl
    ·exact .inr (.inr ⟨h,h2⟩)
  ·rw [if_neg h1]
   by_cases h2:q.1=n
   ·have hl:a1s (q::r) n=q.2:=by unfold a1s;rw [List.find?_cons,beq_iff_eq.2 h2];rfl
    rw [if_pos h2,List.mem_cons,hl,List.mem_cons]
    constructor
    ·rintro (h | h)
     ·exact .inl h
     ·exact .inr ⟨.inr h,by have:=hc.1 p h;omega⟩
    ·rintro (h | ⟨rfl | h,h3⟩)
     ·exact .inl h
     ·exact absurd h2 h3
     ·exact .inr h
   ·have hno: ∀x∈q::r,x.1≠n:=fun x hx=>by
     rcases List.mem_cons.1 hx with rfl | hx
     ·exact h2
     ·have:=hc.1 x hx;omega
    have hl:a1s (q::r) n=0:=by
     unfold a1s
     rw [List.find?_eq_none.2 fun x hx k=>hno x hx (eq_of_beq k)];rfl
    rw [if_neg h2,List.mem_cons,hl]
    constructor
    ·rintro (h | h)
     ·exact .inl h
     ·exact .inr ⟨h,hno p h⟩
    ·rintro (h | ⟨h,_⟩)
     ·exact .inl h
     ·exact .inr h
theorem b5Q {n:Int}: ∀{l:List (Int×Int)},UpF l→UpF (b4g n l)
 | [],_=>List.pairwise_singleton _ _
 | q::r,hd=>by
  have hc:=List.pairwise_cons.1 hd
  unfold b4g
  by_cases h1:q.1<n
  ·rw [if_pos h1]
   refine List.pairwise_cons.2 ⟨fun p hp=>?_,b5Q hc.2⟩
   rcases (b3y hc.2 p).1 hp with rfl | ⟨h,_⟩
   ·exact h1
   ·exact hc.1 p h
  ·rw [if_neg h1]
   by_cases h2:q.1=n
   ·rw [if_pos h2]
    exact List.pairwise_cons.2 ⟨fun p hp=>by have:=hc.1 p hp;show n<p.1;omega,hc.2⟩
   ·rw [if_neg h2]
    refine List.pairwise_cons.2 ⟨fun p hp=>?_,hd⟩
    rcases List.mem_cons.1 hp with rfl | hp
    ·show n<p.1;omega
    ·have:=hc.1 p hp;show n<p.1;omega
theorem b63 {l:List (Int×Int)}{ns:List Int}(h:a2E l ns)(hu:UpF l)(n:Int):a2E (b4g n l) (ns++[n]):=by
 refine⟨(b5Q hu).apart,fun p=>?_⟩
 rw [b3y hu,←a9P h.1]
 exact(h.step n).2 p
def a3I (ns:List Int):List (Int×Int):=ns.foldl (fun l n=>b4g n l) []
theorem b2Q: ∀(ns pre:List Int) (l:List (Int×Int)),a2E l pre→UpF l→a2E (ns.foldl (fun l n=>b4g n l) l) (pre++ns)∧UpF (ns.foldl (fun l n=>b4g n l) l)
 | [],pre,l,h,hu=>by rw [List.append_nil];exact⟨h,hu⟩
 | n::ns,pre,l,h,hu=>by
  rw [List.foldl_cons,show pre++n::ns=(pre++[n])++ns by simp]
  exact b2Q ns (pre++[n]) _ (b63 h hu n) (b5Q hu)
theorem b90 (ns:List Int):a2E (a3I ns) ns∧UpF (a3I ns):=by
 have:=b2Q ns [] [] ⟨List.Pairwise.nil,by simp⟩ List.Pairwise.nil
 simpa [a3I] using this
def b38 (p:Int×Int):List (Int×Int)→List (Int×Int)
 | []=>[p]
 | q::r=>if p.2≤q.2 then q::b38 p r else p::q::r
def b1C (l:List (Int×Int)):List (Int×Int):=l.foldl (fun acc p=>b38 p acc) []
theorem a9K {p x:Int×Int}: ∀{l:List (Int×Int)},x∈b38 p l↔x=p∨x∈l
 | []=>by simp [b38]
 | q::r=>by
  unfold b38
  split
  ·rw [List.mem_cons,a9K (l:=r),List.mem_cons]
   constructor
   ·rintro (h | h | h)<;>simp [h]
   ·rintro (h | h | h)<;>simp [h]
  ·simp [List.mem_cons]
theorem b1p {p:Int×Int}: ∀{l:List (Int×Int)},(l.Pairwise fun a b=>ltF a b=true)→(∀q∈l,q.1<p.1)→(b38 p l).Pairwise fun a b=>ltF a b=true
 | [],_,_=>List.pairwise_singleton _ _
 | q::r,hs,hp=>by
  have hc:=List.pairwise_cons.1 hs
  have hq:=hp q (by simp)
  unfold b38
  split
  ·rename_i h
   refine List.pairwise_cons.2 ⟨fun x hx=>?_,b1p hc.2 fun y hy=>hp y (by simp [hy])⟩
   rcases a9K.1 hx with rfl | hx
   ·rw [a4u];omega
   ·exact hc.1 x hx
  ·rename_i h
   refine List.pairwise_cons.2 ⟨fun x hx=>?_,hs⟩
   have h0:ltF p q=true:=by rw [a4u];omega
   rcases List.mem_cons.1 hx with rfl | hx
   ·exact h0
   ·exact c14 h0 (hc.1 x hx)
theorem b41: ∀(l acc:List (Int×Int)),UpF l→(acc.Pairwise fun a b=>ltF a b=true)→(∀q∈acc,∀p∈l,q.1<p.1)→
  ((l.foldl (fun acc p=>b38 p acc) acc).Pairwise fun a b=>ltF a b=true)∧∀x,x∈l.foldl (fun acc p=>b38 p acc) acc↔x∈acc∨x∈l
 | [],acc,_,hs,_=>⟨hs,by simp⟩
 | p::l,acc,hu,hs,h=>by
  have hc:=List.pairwise_cons.1 hu
  have ih:=b41 l (b38 p acc) hc.2 (b1p hs fun q hq=>h q hq p (by simp)) (fun q hq x hx=>by
   rcases a9K.1 hq with rfl | hq
   ·exact hc.1 x hx
   ·exact h q hq x (by simp [hx]))
  rw [List.foldl_cons]
  refine⟨ih.1,fun x=>?_⟩
  rw [ih.2,a9K,List.mem_cons]
  constructor
  ·rintro ((h | h) | h)<;>simp [h]
  ·rintro (h | h | h)<;>simp [h]
theorem b1c (ns:List Int):((b1C (a3I ns)).Pairwise fun a b=>ltF a b=true)∧∀x,x∈b1C (a3I ns)↔x∈a8Y ns:=by
 obtain⟨h1,h2⟩:=b90 ns
 have h3:=a7x ns
 have h4:=b41 (a3I ns) [] h2 List.Pairwise.nil (by simp)
 refine⟨h4.1,fun x=>?_⟩
 unfold b1C
 rw [h4.2,h3.2,h1.2];simp
theorem b5m (ns:List Int):(a8Y ns).Pairwise fun a b=>ltF a b=true∨ltF b a=true:=(a7x ns).1.imp fun {a b} h=>c49 h
end Go.Fk
