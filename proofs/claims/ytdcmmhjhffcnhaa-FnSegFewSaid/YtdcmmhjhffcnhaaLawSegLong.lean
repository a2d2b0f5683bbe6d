/-
  The law of SegLong. Of no program.
-/
import Derived.Test.YtdcmmhjhffcnhaaLawField
set_option linter.unusedVariables false
namespace Go.Fk
open Go

theorem foldl_sum {α : Type} (w : α → Nat) : ∀ (l : List α) (a : Nat), l.foldl (fun a x => a + w x) a = a + (l.map w).sum
  | [], a => by simp
  | x :: l, a => by rw [List.foldl_cons, foldl_sum w l, List.map_cons, List.sum_cons]; omega
/-! ## the sum -/
end Go.Fk
