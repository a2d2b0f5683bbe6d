/-
  The law of SegLong. Of no program.
-/
import Derived.Test.YtdcmmhjhffcnhaaGreatLawField
set_option linter.unusedVariables false
namespace Go.Fk
open Go

/-! ## the sum -/
end Go.Fk
