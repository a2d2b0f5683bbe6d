/-
  A document's field. Of no program.
-/
import Derived.Test.YtdcmmhjhffcnhaaGreatLawFoSeg
set_option linter.unusedVariables false
namespace Go.Fk
open Go

end Go.Fk
