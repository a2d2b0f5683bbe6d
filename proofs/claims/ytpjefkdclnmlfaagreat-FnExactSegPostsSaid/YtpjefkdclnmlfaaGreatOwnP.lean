/-
  Posts and entries that the call owns with all their rows. Of no program.
-/
import Derived.Test.YtpjefkdclnmlfaaGreatTypes
import Derived.Test.YtpjefkdclnmlfaaGreatCoreMm
namespace Go.Fk
open Go
set_option linter.unusedSectionVars false
variable [dr:Dr]
def oInt:Own Int:=Own.flat tInt fun h=>h
def oPost:Own GPost where
 ty:=tGPost
 own:=fun K f v x=>∃v1,v= .agg #[.int .i64 x.Doc,v1]∧rng64 x.Doc∧RowO oInt K f v1 x.At
 rel:=fun⟨_,e,hr,h1⟩=>by
  obtain⟨a1,n1,c1,rfl⟩:=h1.val
  exact⟨a1,n1,c1,e,hr,h1.sl⟩
 loc:=fun hl ⟨v1,e,hr,h1⟩=>⟨v1,e,hr,h1.loc hl⟩
section
variable {w w0:World}{K K0:KMap}{M:List Nat}{L:List Item}
theorem SH.ownPost {a1:Option Addr}{n1 c1 s1:Nat}{T1:TypeId}{x:GPost}(h:SH w0 K0 M w K (tail (.slice a1 n1 c1) T1 s1::L))(hr:rng64 x.Doc)(h1:SliceAt tInt K a1 n1 c1 x.At):
  ∃f,SH w0 K0 M w K (bag f::L)∧oPost.own K f (.agg #[.int .i64 x.Doc,.slice a1 n1 c1]) x:=by
 obtain⟨f1,g1,g2⟩:=SH.rowF (t:=tInt) (fun h=>h) h h1
 exact⟨f1,g1,_,rfl,hr,g2⟩
end
end Go.Fk
