import Derived.Test.YtpjefkdclnmlfaaGreatLawDrs
/-
  The posts of a key. Of no program.
-/
set_option linter.unusedVariables false
namespace Go.Fk
open Go
end Go.Fk
set_option linter.unusedVariables false
namespace Go.Fk
open Go
end Go.Fk
set_option linter.unusedVariables false
namespace Go.Fk
open Go
theorem spec_copyPosts (F:Nat)(l:List GPost)(h:l.length≤10000∧∀p∈l,p.At.length≤10000)(hF:20000<F):M.spec_l7CopyPosts F l=some l:=by
 have hl:=h.1
 unfold M.spec_l7CopyPosts
 rw [fm_while (xs:=l) (fun p:GPost=>[p]) 10000 F (by omega) (fun i p acc hx hB=>?_) (fun acc=>?_) [] (by rw [List.nil_append];simp;omega)]
 ·simp
 ·have hi:=(List.getElem?_eq_some_iff.1 hx).1
  have:=h.2 p (List.mem_of_getElem? hx)
  rw [decide_eq_true (by omega),cond_true,getI_nat',hx,Option.bind_some,Option.bind_some,catLok (by simp only [List.length_nil];omega),Option.bind_some,List.nil_append,catLok (by simp at hB ⊢;omega),Option.bind_some,w64_succ' (by omega)]
 ·rw [decide_eq_false (by omega)];rfl
end Go.Fk
