/-
  Bounds of a term, for all segments: the program's and the reference's are the plain ones. Of no program.
-/
import Derived.Test.YtfiahfncijjliaaGreatDoorLawSzA
import Derived.Test.YtfiahfncijjliaaGreatDoorLawPts
set_option linter.unusedVariables false
namespace Go.Fk
open Go
theorem impl_boundOfX (F:Nat)(c:GConf)(s:GSeg)(n t:Str)(h1:s.Docs.length≤1048576)(h2:c.Stops.length≤1048576)(hF:1000000000<F):M.impl_BoundOf F c s n t=some (boundsS c s n t):=by
 unfold M.impl_BoundOf boundsS
 rw [impl_ok F c s (by omega) (by omega) (by omega),Option.bind_some]
 cases ho:segOk c s with
 | false=>rfl
 | true=>rw [Bool.not_true,cond_false,impl_bounds F c s n t ho hF];rfl
theorem spec_boundOfX (F:Nat)(c:GConf)(s:GSeg)(n t:Str)(hc:ConfBig c)(hs:SegBig s)(hF:1000000000<F):M.spec_BoundOf F c s n t=some (boundsS c s n t):=by
 unfold M.spec_BoundOf boundsS
 rw [spec_okX F c s hc hs (by omega),Option.bind_some]
 cases ho:segOk c s with
 | false=>rfl
 | true=>rw [Bool.not_true,cond_false,spec_blocks F c s n t ho hF];rfl
theorem blk_shortX {c:GConf}{s:GSeg}(ho:segOk c s=true)(n t:Str):(blk (psS c s n t)).length≤10000:=by
 have:=(postsAt_fits ho n t).1
 rw [blk_len]
 unfold psS
 rw [List.length_map];omega
end Go.Fk
