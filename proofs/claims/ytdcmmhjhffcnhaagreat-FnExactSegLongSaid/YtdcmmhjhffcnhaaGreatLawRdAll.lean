import Derived.Test.YtdcmmhjhffcnhaaGreatModel
/-
  What the reader of drawn codes gives: every draw goes through. Of no program.
-/
namespace Go.Fk
open Go

end Go.Fk

/-
  A word out of some, drawn. Of no program.
-/
namespace Go.Fk
open Go

end Go.Fk

/-
  A number out of some, drawn. Of no program.
-/
namespace Go.Fk
open Go

end Go.Fk

/-
  The draws of texts go through. Of no program.
-/
namespace Go.Fk
open Go

end Go.Fk
