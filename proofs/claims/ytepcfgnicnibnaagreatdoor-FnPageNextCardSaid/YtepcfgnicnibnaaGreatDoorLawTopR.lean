/-
  The best of what a question finds: of all, and those behind a hit. Plain lists.
-/
import Derived.Test.YtepcfgnicnibnaaGreatDoorLawTopQ
import Derived.Test.YtepcfgnicnibnaaGreatDoorLawPlace
set_option linter.unusedVariables false
namespace Go.Fk
open Go
theorem b7w (p:B0→Bool){H:List B0}(hd:H.Nodup):J0 (H.filter p)=(J0 H).filter p:=by
 obtain⟨s1,s2,_⟩:=a5D hd
 obtain⟨f1,f2,_⟩:=a5D (hd.filter p)
 refine b0Y f1 (s1.filter p) fun x=>?_
 rw [f2,List.mem_filter,List.mem_filter,s2]
theorem a4E {α:Type}(p:α→Bool): ∀l:List α,(l.flatMap fun x=>if p x then [x] else [])=l.filter p
 | []=>rfl
 | x::l=>by
  rw [List.flatMap_cons,a4E p l]
  cases h:p x with
  | true=>rw [if_pos rfl,List.filter_cons_of_pos h];rfl
  | false=>rw [if_neg (by decide),List.filter_cons_of_neg (by rw [h];decide)];rfl
end Go.Fk
