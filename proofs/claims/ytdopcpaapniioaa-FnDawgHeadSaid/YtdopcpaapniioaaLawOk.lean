/-
  The program's test of states is the plain one. Of no program.
-/
import Derived.Test.YtdopcpaapniioaaLawHead
namespace Go.Fk
open Go

theorem ok_ok (F : Nat) (d : Sts) (hF : d.length + 1000 < F) (hl : d.length < 9000000000000000000) : M.impl_DawgOk F d = some (okS d) := by
  unfold M.impl_DawgOk
  rw [wordsIn_ok F d hF hl]
  cases okS d <;> rfl
end Go.Fk
