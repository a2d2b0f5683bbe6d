/-
  States of automata that the call owns with their rows of arcs. Of no program.
-/
import Derived.Test.YtpjefkdclnmlfaaTypes
import Derived.Test.YtpjefkdclnmlfaaCoreMm
namespace Go.Fk
open Go
set_option linter.unusedSectionVars false
variable [dr:Dr]
def oArc:Own GArc:=Own.flat tGArc fun h=>h
def oState:Own GState where
 ty:=tGState
 own:=fun K f v x=>∃v1,v= .agg #[.bool x.Final,.int .i64 x.Many,v1]∧rng64 x.Many∧RowO oArc K f v1 x.Arcs
 rel:=fun⟨_,e,hr,h1⟩=>by
  obtain⟨a1,n1,c1,rfl⟩:=h1.val
  exact⟨a1,n1,c1,e,hr,h1.sl⟩
 loc:=fun hl ⟨v1,e,hr,h1⟩=>⟨v1,e,hr,h1.loc hl⟩
section
variable {w w0:World}{K K0:KMap}{M:List Nat}{L:List Item}
theorem SH.ownState {a1:Option Addr}{n1 c1 s1:Nat}{T1:TypeId}{x:GState}(h:SH w0 K0 M w K (tail (.slice a1 n1 c1) T1 s1::L))(hr:rng64 x.Many)(h1:SliceAt tGArc K a1 n1 c1 x.Arcs):
  ∃f,SH w0 K0 M w K (bag f::L)∧oState.own K f (.agg #[.bool x.Final,.int .i64 x.Many,.slice a1 n1 c1]) x:=by
 obtain⟨f1,g1,g2⟩:=SH.rowF (t:=tGArc) (fun h=>h) h h1
 exact⟨f1,g1,_,rfl,hr,g2⟩
end
end Go.Fk
