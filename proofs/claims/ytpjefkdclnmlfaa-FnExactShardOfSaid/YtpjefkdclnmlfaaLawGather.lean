/-
  Loops that gather what each element gives. Of no program.
-/
import Derived.Test.YtpjefkdclnmlfaaLawFind
namespace Go.Fk
open Go
end Go.Fk
