import Derived.Test.YtpjefkdclnmlfaaLawTSC
import Derived.Test.YtpjefkdclnmlfaaLawGather
/-
  The terms of a text: the program and the reference find the same. Of no program.
-/
set_option linter.unusedVariables false
namespace Go.Fk
open Go
end Go.Fk
set_option linter.unusedVariables false
namespace Go.Fk
open Go
end Go.Fk
