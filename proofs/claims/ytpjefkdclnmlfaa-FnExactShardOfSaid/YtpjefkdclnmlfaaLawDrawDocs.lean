/-
  The draws of documents go through, whatever the code. Of no program.
-/
import Derived.Test.YtpjefkdclnmlfaaLawRdAll
import Derived.Test.YtpjefkdclnmlfaaLawDocs
namespace Go.Fk
open Go
structure DocDrawn (f n:Nat)(d:GDoc):Prop where
 fields:d.Fields.length≤f
 nums:d.Nums.length≤n
 field: ∀f∈d.Fields,f.Name.length≤1000∧f.Text.length≤1000
 num: ∀a∈d.Nums,a.Name.length≤1000
theorem DocDrawn.more {f n f' n':Nat}{d:GDoc}(h:DocDrawn f n d)(hf:f≤f')(hn:n≤n'):DocDrawn f' n' d:=⟨by have:=h.fields;omega,by have:=h.nums;omega,h.field,h.num⟩
end Go.Fk
