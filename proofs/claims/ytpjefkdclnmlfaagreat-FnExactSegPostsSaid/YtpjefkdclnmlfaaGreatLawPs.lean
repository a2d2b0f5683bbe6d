import Derived.Test.YtpjefkdclnmlfaaGreatLawFoSeg
/-
  The posts of a key. Of no program.
-/
set_option linter.unusedVariables false
namespace Go.Fk
open Go
def postsAt (s:GSeg)(n t:Str):List GPost:=(s.Entries.find? (keyP n t)).elim [] (·.Posts)
theorem impl_findPosts (F:Nat)(s:GSeg)(n t:Str):M.impl_Seg_posts F s n t=some (postsAt s n t):=by
 unfold M.impl_Seg_posts postsAt
 rw [find_from (xs:=s.Entries) (keyP n t) (fun e=>e.Posts) (fun i x hx=>?_)]
 ·cases s.Entries.find? (keyP n t)<;>rfl
 ·rw [getI_nat',hx,Option.bind_some]
  unfold keyP
  rw [if_bif]
  cases x.Field==n
  ·rfl
  ·cases x.Term==t<;>rfl
theorem impl_segPosts (F:Nat)(c:GConf)(s:GSeg)(n t:Str)(hd:s.Docs.length<9000000000000000000)(hc:c.Stops.length≤2000000)(hF:2000<F):M.impl_SegPosts F c s n t=some (if segOk c s then postsAt s n t else []):=by
 unfold M.impl_SegPosts
 rw [impl_ok F c s hd hc (by omega),Option.bind_some]
 cases ho:segOk c s
 ·rfl
 obtain⟨h1,h2,h3⟩:=seg_is ho
 have hfit:Fits 10000 s.Entries:=by rw [h3];exact(seg_fits h2).le (by omega)
 have hp:(postsAt s n t).length≤10000∧∀p∈postsAt s n t,p.At.length≤10000:=by
  unfold postsAt
  cases hf:s.Entries.find? (keyP n t) with
  | none=>exact⟨Nat.zero_le _,fun p hp=>by cases hp⟩
  | some e=>exact hfit.2 e (List.mem_of_find?_eq_some hf)
 have hpl:=hp.1
 rw [Bool.not_true,cond_false,impl_findPosts,Option.bind_some,if_pos rfl]
 rw [fm_forE (fun p:GPost=>[p]) 10000 (fun i p acc hx hB=>?_) [] (by rw [List.nil_append];simp;omega)]
 ·simp
 ·have:=hp.2 p (List.mem_of_getElem? hx)
  rw [getI_nat',hx,Option.bind_some,catLok (by simp only [List.length_nil];omega),Option.bind_some,List.nil_append,catLok (by simp at hB ⊢;omega)];rfl
end Go.Fk
set_option linter.unusedVariables false
namespace Go.Fk
open Go
end Go.Fk
set_option linter.unusedVariables false
namespace Go.Fk
open Go
theorem spec_findPosts (F:Nat)(s:GSeg)(n t:Str)(hl:s.Entries.length≤10000)(hF:20000<F):M.spec_l7Posts F s n t=some (postsAt s n t):=by
 unfold M.spec_l7Posts postsAt
 rw [find_while (xs:=s.Entries) (keyP n t) (fun e=>(Sum.inr e.Posts:Unit⊕List GPost)) (e:=Sum.inl ()) F (by omega) (fun i x hx=>?_) ?_]
 ·cases s.Entries.find? (keyP n t)<;>rfl
 ·rw [decide_eq_false (by omega)];rfl
 ·have hi:=(List.getElem?_eq_some_iff.1 hx).1
  rw [decide_eq_true (by omega),cond_true,getI_nat',hx,Option.bind_some,Option.bind_some,Option.bind_some,w64_succ' (by omega)]
  unfold keyP
  rw [if_bif]
  cases x.Field==n
  ·rfl
  ·cases x.Term==t<;>rfl
theorem spec_copyPosts (F:Nat)(l:List GPost)(h:l.length≤10000∧∀p∈l,p.At.length≤10000)(hF:20000<F):M.spec_l7CopyPosts F l=some l:=by
 have hl:=h.1
 unfold M.spec_l7CopyPosts
 rw [fm_while (xs:=l) (fun p:GPost=>[p]) 10000 F (by omega) (fun i p acc hx hB=>?_) (fun acc=>?_) [] (by rw [List.nil_append];simp;omega)]
 ·simp
 ·have hi:=(List.getElem?_eq_some_iff.1 hx).1
  have:=h.2 p (List.mem_of_getElem? hx)
  rw [decide_eq_true (by omega),cond_true,getI_nat',hx,Option.bind_some,Option.bind_some,catLok (by simp only [List.length_nil];omega),Option.bind_some,List.nil_append,catLok (by simp at hB ⊢;omega),Option.bind_some,w64_succ' (by omega)]
 ·rw [decide_eq_false (by omega)];rfl
theorem postsAt_fits {c:GConf}{s:GSeg}(ho:segOk c s=true)(n t:Str):(postsAt s n t).length≤10000∧∀p∈postsAt s n t,p.At.length≤10000:=by
 obtain⟨h1,h2,h3⟩:=seg_is ho
 have hfit:Fits 10000 s.Entries:=by rw [h3];exact(seg_fits h2).le (by omega)
 unfold postsAt
 cases hf:s.Entries.find? (keyP n t) with
 | none=>exact⟨Nat.zero_le _,fun p hp=>by cases hp⟩
 | some e=>exact hfit.2 e (List.mem_of_find?_eq_some hf)
end Go.Fk
