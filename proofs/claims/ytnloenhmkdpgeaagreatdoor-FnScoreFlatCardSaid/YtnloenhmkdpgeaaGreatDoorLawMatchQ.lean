/-
  What a question finds, of all questions. The law, on the models.
-/
import Derived.Test.YtnloenhmkdpgeaaGreatDoorLawScoreT
import Derived.Test.YtnloenhmkdpgeaaGreatDoorLawOkQ
import Derived.Test.YtnloenhmkdpgeaaGreatDoorLawBase
set_option linter.unusedVariables false
namespace Go.Fk
open Go
structure c5m (q:q7):Prop where
 f:q.Field.length≤12
 w:q.Words.length≤4
 ws: ∀w∈q.Words,w.length≤12
 k:q.Kids.length≤4
end Go.Fk
