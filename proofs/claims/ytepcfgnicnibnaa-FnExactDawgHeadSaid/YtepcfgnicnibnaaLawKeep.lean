/-
  Loops that keep what fits. Of no program.
-/
import Derived.Test.YtepcfgnicnibnaaLawAll
import Derived.Test.YtepcfgnicnibnaaModel
namespace Go.Fk
open Go
end Go.Fk
