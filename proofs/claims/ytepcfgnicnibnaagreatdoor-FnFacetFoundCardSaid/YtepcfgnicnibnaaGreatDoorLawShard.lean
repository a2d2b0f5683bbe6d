/-
  b7W document is in one shard: in plain data. Of no program.
-/
import Derived.Test.YtepcfgnicnibnaaGreatDoorLawDrs
namespace Go.Fk
open Go
theorem Q2.filter {ds:List y5}(h:Q2 ds)(p:y5→Bool):Q2 (ds.filter p):=
 ⟨by have:=List.length_filter_le p ds;have:=h.few;omega,fun d hd=>h.doc d (List.mem_filter.1 hd).1⟩
end Go.Fk
