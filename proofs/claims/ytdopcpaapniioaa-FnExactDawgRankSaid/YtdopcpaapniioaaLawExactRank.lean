/-
  Ranks: the program's and the reference's, in plain data. Of no program.
-/
import Derived.Test.YtdopcpaapniioaaLawStates
import Derived.Test.YtdopcpaapniioaaLawGo
namespace Go.Fk
open Go

theorem law_exactRank (d : Sts) (s : Str) (hl : d.length ≤ maxLen) (ha : ∀ s ∈ d, s.Arcs.length ≤ maxLen) : ∃ F, M.laws_FnExactDawgRank F d s = some true := by
  refine ⟨20000000, ?_⟩
  generalize hF : 20000000 = F
  obtain ⟨r, hr, hb⟩ := szStateS_ok F d (by omega) hl ha
  unfold M.laws_FnExactDawgRank
  by_cases hs : (1048576 : Int) < (s.length : Int)
  · rw [decide_eq_true hs]; rfl
  rw [decide_eq_false hs, cond_false, hr, Option.bind_some]
  by_cases h : r < 0
  · rw [decide_eq_true h]; rfl
  · obtain ⟨h1, h2⟩ := hb (by omega)
    have ht := toStateS_ok F d (by omega) h1 h2
    rw [decide_eq_false h, cond_false, ht, Option.bind_some, specRank_ok F d s (by omega) h1 (by omega) h2, Option.bind_some, Option.bind_some, rank_ok F d s (by omega) (by omega), Option.bind_some, beq_self_eq_true, Bool.not_true, cond_false, Option.bind_some, eqStateS_self F d (by omega) h1 h2]
    rfl
end Go.Fk
