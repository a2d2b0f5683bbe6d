/-
  Loops that keep what fits. Of no program.
-/
import Derived.Test.YtpjefkdclnmlfaaLawLA
import Derived.Test.YtpjefkdclnmlfaaModel
namespace Go.Fk
open Go
end Go.Fk
