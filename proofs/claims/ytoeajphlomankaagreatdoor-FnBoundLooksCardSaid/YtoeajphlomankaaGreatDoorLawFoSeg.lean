/-
  What stands is found the same as itself. Of no program.
-/
import Derived.Test.YtoeajphlomankaaGreatDoorLawDrawSeg
set_option linter.unusedVariables false
namespace Go.Fk
open Go
end Go.Fk
