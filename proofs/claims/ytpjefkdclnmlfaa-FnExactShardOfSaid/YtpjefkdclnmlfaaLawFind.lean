/-
  Loops that look for the first element of a kind. Of no program.
-/
import Derived.Test.YtpjefkdclnmlfaaLawKeep
namespace Go.Fk
open Go
end Go.Fk
