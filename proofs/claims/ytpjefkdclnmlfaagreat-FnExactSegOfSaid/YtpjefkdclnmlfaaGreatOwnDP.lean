import Derived.Test.YtpjefkdclnmlfaaGreatTypes
import Derived.Test.YtpjefkdclnmlfaaGreatCoreMm
/-
  Documents that the call owns with all their rows. Of no program.
-/
namespace Go.Fk
open Go
set_option linter.unusedSectionVars false
variable [dr:Dr]
def oField:Own GField:=Own.flat tGField fun h=>h
def oAttr:Own GAttr:=Own.flat tGAttr fun h=>h
def oDoc:Own GDoc where
 ty:=tGDoc
 own:=fun K f v x=>∃v1 v2 f1 f2,v= .agg #[.int .i64 x.Id,v1,v2]∧rng64 x.Id∧RowO oField K f1 v1 x.Fields∧RowO oAttr K f2 v2 x.Nums∧f=f1++f2
 rel:=fun⟨_,_,_,_,e,hr,h1,h2,_⟩=>by
  obtain⟨a1,n1,c1,rfl⟩:=h1.val
  obtain⟨a2,n2,c2,rfl⟩:=h2.val
  exact⟨a1,n1,c1,a2,n2,c2,e,hr,h1.sl,h2.sl⟩
 loc:=fun hl ⟨v1,v2,f1,f2,e,hr,h1,h2,hf⟩=>⟨v1,v2,f1,f2,e,hr,h1.loc fun b hb=>hl b (by rw [hf];exact List.mem_append_left _ hb),h2.loc fun b hb=>hl b (by rw [hf];exact List.mem_append_right _ hb),hf⟩
section
variable {w w0:World}{K K0:KMap}{M:List Nat}{L:List Item}
theorem SH.ownDoc {a1 a2:Option Addr}{n1 c1 n2 c2 s1 s2:Nat}{T1 T2:TypeId}{x:GDoc}(h:SH w0 K0 M w K (tail (.slice a1 n1 c1) T1 s1::tail (.slice a2 n2 c2) T2 s2::L))(hr:rng64 x.Id)(h1:SliceAt tGField K a1 n1 c1 x.Fields)(h2:SliceAt tGAttr K a2 n2 c2 x.Nums):
  ∃f,SH w0 K0 M w K (bag f::L)∧oDoc.own K f (.agg #[.int .i64 x.Id,.slice a1 n1 c1,.slice a2 n2 c2]) x:=by
 obtain⟨f1,g1,g2⟩:=SH.rowF (t:=tGField) (fun h=>h) h h1
 obtain⟨f2,g3,g4⟩:=SH.rowF (t:=tGAttr) (fun h=>h) (g1.perm (List.Perm.swap _ _ _)) h2
 exact⟨f1++f2,SH.bagJoin (g3.perm (List.Perm.swap _ _ _)),_,_,f1,f2,rfl,hr,g2,g4,rfl⟩
end
end Go.Fk
namespace Go.Fk
open Go
set_option linter.unusedSectionVars false
variable [dr:Dr]
def oInt:Own Int:=Own.flat tInt fun h=>h
def oPost:Own GPost where
 ty:=tGPost
 own:=fun K f v x=>∃v1,v= .agg #[.int .i64 x.Doc,v1]∧rng64 x.Doc∧RowO oInt K f v1 x.At
 rel:=fun⟨_,e,hr,h1⟩=>by
  obtain⟨a1,n1,c1,rfl⟩:=h1.val
  exact⟨a1,n1,c1,e,hr,h1.sl⟩
 loc:=fun hl ⟨v1,e,hr,h1⟩=>⟨v1,e,hr,h1.loc hl⟩
section
variable {w w0:World}{K K0:KMap}{M:List Nat}{L:List Item}
end
def oEntry:Own GEntry where
 ty:=tGEntry
 own:=fun K f v x=>∃v1,v= .agg #[sv x.Field,sv x.Term,v1]∧x.Field.length≤maxLen∧x.Term.length≤maxLen∧RowO oPost K f v1 x.Posts
 rel:=fun⟨_,e,hr,hr2,h1⟩=>by
  obtain⟨a1,n1,c1,rfl⟩:=h1.val
  exact⟨a1,n1,c1,e,hr,hr2,h1.sl⟩
 loc:=fun hl ⟨v1,e,hr,hr2,h1⟩=>⟨v1,e,hr,hr2,h1.loc hl⟩
end Go.Fk
