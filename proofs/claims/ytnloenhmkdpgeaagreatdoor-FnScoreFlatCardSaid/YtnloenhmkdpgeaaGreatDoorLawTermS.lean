/-
  What a word is worth: points of its places. The law, on the models.
-/
import Derived.Test.YtnloenhmkdpgeaaGreatDoorLawPlace
set_option linter.unusedVariables false
namespace Go.Fk
open Go
end Go.Fk
