/-
  What stands is found the same as itself. Of no program.
-/
import Derived.Test.YtpjefkdclnmlfaaGreatLawDrs
set_option linter.unusedVariables false
namespace Go.Fk
open Go
end Go.Fk
