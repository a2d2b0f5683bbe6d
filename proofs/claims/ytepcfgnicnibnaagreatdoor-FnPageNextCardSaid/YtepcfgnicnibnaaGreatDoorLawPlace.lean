/-
  A phrase of two words that follow each other: what it is worth. The law, on the models.
-/
import Derived.Test.YtepcfgnicnibnaaGreatDoorLawScoreX
import Derived.Test.YtepcfgnicnibnaaGreatDoorLawSegP
set_option linter.unusedVariables false
namespace Go.Fk
open Go
end Go.Fk
