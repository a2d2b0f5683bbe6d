/-
  What the reference makes of documents: the segment. Of no program.
-/
import Derived.Test.YtpjefkdclnmlfaaLawOrd
import Derived.Test.YtpjefkdclnmlfaaLawTermsA
import Derived.Test.YtpjefkdclnmlfaaLawDocs
set_option linter.unusedVariables false
namespace Go.Fk
open Go
end Go.Fk
