import Derived.Test.YtpjefkdclnmlfaaLawSeg
/-
  The segment by putting one term after the other: entries in the order of their first term. Of no program.
-/
set_option linter.unusedVariables false
namespace Go.Fk
open Go
end Go.Fk
set_option linter.unusedVariables false
namespace Go.Fk
open Go
structure DocsGood (docs:List GDoc):Prop where
 ids:docs.Pairwise fun a b=>a.Id<b.Id
 names: ∀d∈docs,d.Fields.Pairwise fun f g=>f.Name≠g.Name
end Go.Fk
