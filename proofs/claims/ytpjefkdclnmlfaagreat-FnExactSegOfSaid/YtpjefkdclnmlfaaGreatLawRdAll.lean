import Derived.Test.YtpjefkdclnmlfaaGreatModel
/-
  What the reader of drawn codes gives: every draw goes through. Of no program.
-/
namespace Go.Fk
open Go
end Go.Fk
namespace Go.Fk
open Go
end Go.Fk
namespace Go.Fk
open Go
end Go.Fk
namespace Go.Fk
open Go
end Go.Fk
