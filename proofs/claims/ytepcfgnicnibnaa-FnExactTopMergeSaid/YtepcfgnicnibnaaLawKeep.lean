/-
  Loops that keep what fits. Of no program.
-/
import Derived.Test.YtepcfgnicnibnaaLawAll
import Derived.Test.YtepcfgnicnibnaaModel
namespace Go.Fk
open Go
theorem zipAt {α:Type}{xs:List α}{i:Nat}{q:α×Nat}(h:xs.zipIdx[i]? =some q):xs[i]? =some q.1∧q.2=i:=by
 rw [List.getElem?_zipIdx] at h
 obtain⟨x,hx,rfl⟩:=Option.map_eq_some_iff.1 h
 exact⟨hx,by simp⟩
theorem withinS (F:Nat)(n a b:Int):M.impl_within F n a b=some (decide (a≤n)&&decide (n≤b)):=by
 unfold M.impl_within
 cases decide (a≤n)<;>rfl
theorem inS (F:Nat)(n a b:Int):M.spec_l1In F n a b=some (decide (a≤n)&&decide (n≤b)):=by
 unfold M.spec_l1In
 cases decide (a≤n)<;>rfl
theorem catLok {α:Type}{n:Nat}{xs ys:List α}(h:(xs.length+ys.length)*n≤140737488355328):catL n xs ys=some (xs++ys):=by rw [catL,if_pos h]
end Go.Fk
