/-
  Counting by a map: what is in it behind all steps. Of no program.
-/
import Derived.Test.YtepcfgnicnibnaaGreatDoorCoreW
set_option linter.unusedVariables false
namespace Go.Fk
open Go
theorem a9P {n v:Int}{p:Int×Int}: ∀{m:List (Int×Int)},(m.Pairwise fun a b=>a.1≠b.1)→(p∈a4Z n v m↔p=(n,v)∨(p∈m∧p.1≠n))
 | [],_=>by simp [a4Z]
 | q::r,hd=>by
  have hc:=List.pairwise_cons.1 hd
  unfold a4Z
  cases h:q.1==n
  ·have hne:=beq_eq_false_iff_ne.1 h
   rw [if_neg (by simp),List.mem_cons,a9P hc.2,List.mem_cons]
   constructor
   ·rintro (rfl | h1 | ⟨h1,h2⟩)
    ·exact .inr ⟨.inl rfl,hne⟩
    ·exact .inl h1
    ·exact .inr ⟨.inr h1,h2⟩
   ·rintro (h1 | ⟨rfl | h1,h2⟩)
    ·exact .inr (.inl h1)
    ·exact .inl rfl
    ·exact .inr (.inr ⟨h1,h2⟩)
  ·have he:=eq_of_beq h
   rw [if_pos rfl,List.mem_cons,List.mem_cons]
   constructor
   ·rintro (h1 | h1)
    ·exact .inl h1
    ·exact .inr ⟨.inr h1,fun k=>hc.1 p h1 (he.trans k.symm)⟩
   ·rintro (h1 | ⟨rfl | h1,h2⟩)
    ·exact .inl h1
    ·exact absurd he h2
    ·exact .inr h1
theorem b3x {n v:Int}: ∀{m:List (Int×Int)},(m.Pairwise fun a b=>a.1≠b.1)→(a4Z n v m).Pairwise fun a b=>a.1≠b.1
 | [],_=>List.pairwise_singleton _ _
 | q::r,hd=>by
  have hc:=List.pairwise_cons.1 hd
  unfold a4Z
  cases h:q.1==n
  ·have hne:=beq_eq_false_iff_ne.1 h
   rw [if_neg (by simp)]
   refine List.pairwise_cons.2 ⟨fun p hp=>?_,b3x hc.2⟩
   rcases (a9P hc.2).1 hp with rfl | ⟨h1,_⟩
   ·exact hne
   ·exact hc.1 p h1
  ·have he:=eq_of_beq h
   rw [if_pos rfl]
   exact List.pairwise_cons.2 ⟨fun p hp=>by rw [←he];exact hc.1 p hp,hc.2⟩
def a2E (m:List (Int×Int))(ns:List Int):Prop:=(m.Pairwise fun a b=>a.1≠b.1)∧∀p,p∈m↔p.1∈ns∧p.2=(ns.count p.1:Int)
theorem a2E.look {m:List (Int×Int)}{ns:List Int}(h:a2E m ns)(n:Int):a1s m n=(ns.count n:Int):=by
 unfold a1s
 cases hf:m.find? fun p=>p.1==n with
 | some p=>
  have hp:=(h.2 p).1 (List.mem_of_find?_eq_some hf)
  have e:=eq_of_beq (List.find?_some (p:=fun p:Int×Int=>p.1==n) hf)
  rw [e] at hp
  exact hp.2
 | none=>
  by_cases hn:n∈ns
  ·have:=List.find?_eq_none.1 hf _ ((h.2 (n,(ns.count n:Int))).2 ⟨hn,rfl⟩)
   exact absurd (beq_self_eq_true n) this
  ·rw [List.count_eq_zero.2 hn];rfl
theorem a2E.step {m:List (Int×Int)}{ns:List Int}(h:a2E m ns)(n:Int):a2E (a4Z n (a1s m n+1) m) (ns++[n]):=by
 refine⟨b3x h.1,fun p=>?_⟩
 rw [a9P h.1,h.look,h.2,List.mem_append,List.mem_singleton,List.count_append]
 by_cases e:p.1=n
 ·subst e
  rw [List.count_singleton_self]
  constructor
  ·rintro (h1 | ⟨_,h2⟩)
   ·exact⟨.inr rfl,by rw [congrArg Prod.snd h1];omega⟩
   ·exact absurd rfl h2
  ·rintro⟨_,h2⟩
   exact .inl (Prod.ext rfl (by rw [h2];omega))
 ·have h0:List.count p.1 [n]=0:=List.count_eq_zero.2 (by simpa using e)
  rw [h0]
  constructor
  ·rintro (h1 | ⟨⟨h1,h2⟩,_⟩)
   ·exact absurd (congrArg Prod.fst h1) e
   ·exact⟨.inl h1,by rw [h2];omega⟩
  ·rintro⟨h1 | h1,h2⟩
   ·exact .inr ⟨⟨h1,by rw [h2];omega⟩,e⟩
   ·exact absurd h1 e
theorem b4r: ∀(m:List (Int×Int)) (ns:List Int),(m.Pairwise fun a b=>a.1≠b.1)→(∀p∈m,p.1∈ns)→m.length≤ns.length
 | [],_,_,_=>Nat.zero_le _
 | p::r,ns,hd,h=>by
  have hc:=List.pairwise_cons.1 hd
  have hp:=h p (List.mem_cons_self ..)
  have:=b4r r (ns.erase p.1) hc.2 (fun q hq=>(List.mem_erase_of_ne (Ne.symm (hc.1 q hq))).2 (h q (List.mem_cons_of_mem _ hq)))
  rw [List.length_erase_of_mem hp] at this
  have h0:=List.length_pos_of_mem hp
  simp only [r4];omega
theorem a8Z {m:List (Int×Int)}{ns:List Int}(h:a2E m ns):m.length≤ns.length:=b4r m ns h.1 fun p hp=>((h.2 p).1 hp).1
def a8Y (ns:List Int):List (Int×Int):=ns.foldl (fun m n=>a4Z n (a1s m n+1) m) []
theorem b4v: ∀(ns pre:List Int) (m:List (Int×Int)),a2E m pre→a2E (ns.foldl (fun m n=>a4Z n (a1s m n+1) m) m) (pre++ns)
 | [],pre,m,h=>by rw [List.append_nil];exact h
 | n::ns,pre,m,h=>by
  rw [List.foldl_cons,show pre++n::ns=(pre++[n])++ns by simp]
  exact b4v ns (pre++[n]) _ (h.step n)
theorem a7x (ns:List Int):a2E (a8Y ns) ns:=by
 have:=b4v ns [] [] ⟨List.Pairwise.nil,by simp⟩
 simpa [a8Y] using this
end Go.Fk
