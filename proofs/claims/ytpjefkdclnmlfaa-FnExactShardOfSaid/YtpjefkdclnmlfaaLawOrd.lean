/-
  Order of texts, insertion, sorting by a key. Of no program.
-/
import Derived.Test.YtpjefkdclnmlfaaLawGather
set_option linter.unusedVariables false
namespace Go.Fk
open Go
end Go.Fk
