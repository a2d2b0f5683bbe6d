import Derived.Test.YtpjefkdclnmlfaaLawDocs
import Derived.Test.YtpjefkdclnmlfaaLawFind
/-
  The words of a text: the program and the reference find the same. Of no program.
-/
namespace Go.Fk
open Go
end Go.Fk
set_option linter.unusedVariables false
namespace Go.Fk
open Go
end Go.Fk
set_option linter.unusedVariables false
namespace Go.Fk
open Go
theorem word_le {s:Str}(h:wordS s=true):s.length≤12:=by
 simp only [wordS,Bool.and_eq_true,decide_eq_true_iff] at h
 exact h.2.2
end Go.Fk
