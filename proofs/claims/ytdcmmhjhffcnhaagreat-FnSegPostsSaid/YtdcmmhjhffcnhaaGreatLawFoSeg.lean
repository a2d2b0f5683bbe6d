/-
  What stands is found the same as itself. Of no program.
-/
import Derived.Test.YtdcmmhjhffcnhaaGreatLawDrawSeg
set_option linter.unusedVariables false
namespace Go.Fk
open Go

theorem foInts_same (F : Nat) (a : List Int) (ha : a.length < 1000000000) (hF : a.length < F) : M.laws_foInts F a a = some true := by
  unfold M.laws_foInts
  rw [beq_self_eq_true, Bool.not_true, cond_false, clean0' (n := a.length) F (by omega) (fun i hi => ?_) ?_]
  · rfl
  · rw [decide_eq_false (by omega)]; rfl
  · rw [decide_eq_true (by omega), cond_true, getI_at hi, Option.bind_some, Option.bind_some, w64_succ' (by omega), beq_self_eq_true]
    rfl
theorem foPosts_same (F : Nat) (a : List GPost) (ha : a.length ≤ 10000 ∧ ∀ p ∈ a, p.At.length ≤ 10000) (hF : 10000 < F) : M.laws_foPosts F a a = some true := by
  have hl := ha.1
  unfold M.laws_foPosts
  rw [beq_self_eq_true, Bool.not_true, cond_false, clean0' (n := a.length) F (by omega) (fun i hi => ?_) ?_]
  · rfl
  · rw [decide_eq_false (by omega)]; rfl
  · have := ha.2 _ (List.getElem_mem hi)
    rw [decide_eq_true (by omega), cond_true, getI_at hi, Option.bind_some, Option.bind_some, beq_self_eq_true, Bool.not_true, cond_false, Option.bind_some, Option.bind_some, foInts_same F _ (by omega) (by omega), w64_succ' (by omega)]
    rfl
end Go.Fk
