/-
  Both, either, less, so many times: what the questions are worth. The laws, on the models.
-/
import Derived.Test.YtpdfkjjmcnhakaaGreatDoorLawSc
import Derived.Test.YtpdfkjjmcnhakaaGreatDoorLawDrs
set_option linter.unusedVariables false
namespace Go.Fk
open Go
end Go.Fk
