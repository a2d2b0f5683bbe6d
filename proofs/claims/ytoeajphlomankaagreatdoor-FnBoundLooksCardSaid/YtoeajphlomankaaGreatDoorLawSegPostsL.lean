/-
  The law of SegPosts. Of no program.
-/
import Derived.Test.YtoeajphlomankaaGreatDoorLawSegPosts
import Derived.Test.YtoeajphlomankaaGreatDoorLawField
set_option linter.unusedVariables false
namespace Go.Fk
open Go
theorem spec_findPosts (F : Nat) (s : GSeg) (n t : Str) (hl : s.Entries.length ≤ 10000) (hF : 20000 < F) : M.spec_l7Posts F s n t = some (postsAt s n t) := by
 unfold M.spec_l7Posts postsAt
 rw [find_while (xs := s.Entries) (keyP n t) (fun e => (Sum.inr e.Posts : Unit ⊕ List GPost)) (e := Sum.inl ()) F (by omega) (fun i x hx => ?_) ?_]
 ·cases s.Entries.find? (keyP n t) <;> rfl
 ·rw [decide_eq_false (by omega)]; rfl
 ·have hi := (List.getElem?_eq_some_iff.1 hx).1
  rw [decide_eq_true (by omega), cond_true, getI_nat', hx, Option.bind_some, Option.bind_some, Option.bind_some, w64_succ' (by omega)]
  unfold keyP
  rw [if_bif]
  cases x.Field == n
  ·rfl
  ·cases x.Term == t <;> rfl
theorem postsAt_fits {c : GConf} {s : GSeg} (ho : segOk c s = true) (n t : Str) : (postsAt s n t).length ≤ 10000 ∧ ∀ p ∈ postsAt s n t, p.At.length ≤ 10000 := by
 obtain ⟨h1, h2, h3⟩ := seg_is ho
 have hfit : Fits 10000 s.Entries := by rw [h3]; exact (seg_fits h2).le (by omega)
 unfold postsAt
 cases hf : s.Entries.find? (keyP n t) with
 | none => exact ⟨Nat.zero_le _, fun p hp => by cases hp⟩
 | some e => exact hfit.2 e (List.mem_of_find?_eq_some hf)
end Go.Fk
