/-
  The program's test of states is the plain one. Of no program.
-/
import Derived.Test.YtepcfgnicnibnaaLawHead
namespace Go.Fk
open Go
end Go.Fk
