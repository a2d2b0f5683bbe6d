import Derived.Test.YtpjefkdclnmlfaaGreatLawRdAll
import Derived.Test.YtpjefkdclnmlfaaGreatLawBase
import Derived.Test.YtpjefkdclnmlfaaGreatLawSegKL
/-
  The draws of documents go through, whatever the code. Of no program.
-/
namespace Go.Fk
open Go
structure DocDrawn (f n:Nat)(d:GDoc):Prop where
 fields:d.Fields.length≤f
 nums:d.Nums.length≤n
 field: ∀f∈d.Fields,f.Name.length≤1000∧f.Text.length≤1000
 num: ∀a∈d.Nums,a.Name.length≤1000
theorem DocDrawn.fit {f n:Nat}{d:GDoc}(h:DocDrawn f n d)(hf:f≤100)(hn:n≤100):DocFit d:=⟨by have:=h.fields;omega,by have:=h.nums;omega,h.field,h.num⟩
theorem DocDrawn.more {f n f' n':Nat}{d:GDoc}(h:DocDrawn f n d)(hf:f≤f')(hn:n≤n'):DocDrawn f' n' d:=⟨by have:=h.fields;omega,by have:=h.nums;omega,h.field,h.num⟩
def DocsDrawn (k:Nat)(ds:List GDoc):Prop:=ds.length≤k∧∀d∈ds,DocDrawn 3 3 d
theorem DocsDrawn.fit {k:Nat}{ds:List GDoc}(h:DocsDrawn k ds)(hk:k≤100):DocsFit ds:=⟨by have:=h.1;omega,fun d hd=>(h.2 d hd).fit (by omega) (by omega)⟩
end Go.Fk
set_option linter.unusedVariables false
namespace Go.Fk
open Go
def stopsD:List (List Str):=[[],[[116,104,101]],[[100,111,103],[116,104,101]]]
def synsD:List (List GSyn):=[[],[⟨[[110,101,119],[121,111,114,107]],[110,121]⟩],[⟨[[98,105,103]],[108,97,114,103]⟩,⟨[[98,105,103],[114,101,100],[102,111,120]],[102,111,120]⟩,⟨[[110,101,119],[121,111,114,107]],[110,121]⟩]]
def ConfDrawn (c:GConf):Prop:=c.Stops∈stopsD∧c.Syns∈synsD
theorem fits_of_mem {B:Nat}{c:GConf}(h1:c.Stops.length≤B∧∀s∈c.Stops,s.length≤B)(h2:c.Syns.length≤B∧∀r∈c.Syns,r.To.length≤B∧r.From.length≤B∧∀w∈r.From,w.length≤B):ConfFit B c:=by
 constructor
 ·exact h1
 ·exact⟨h2.1,fun r hr=>⟨(h2.2 r hr).2.1,(h2.2 r hr).1,(h2.2 r hr).2.2⟩⟩
theorem stops_fit: ∀a∈stopsD,a.length≤90∧∀s∈a,s.length≤100:=by decide
theorem syns_fit: ∀a∈synsD,a.length≤90∧∀r∈a,r.To.length≤100∧r.From.length≤100∧∀w∈r.From,w.length≤100:=by decide
theorem ConfDrawn.fit {c:GConf}(h:ConfDrawn c):ConfFit 100 c:=by
 obtain⟨a1,a2⟩:=stops_fit _ h.1
 obtain⟨b1,b2⟩:=syns_fit _ h.2
 exact fits_of_mem ⟨by omega,a2⟩ ⟨by omega,b2⟩
end Go.Fk
set_option linter.unusedVariables false
namespace Go.Fk
open Go
theorem segOf_fits (c:GConf)(docs:List GDoc):DocsFit (segOf c docs).Docs∧Fits 10000 (segOf c docs).Entries:=by
 have none_:DocsFit (GSeg.mk [] []).Docs∧Fits 10000 (GSeg.mk [] []).Entries:=⟨⟨Nat.zero_le _,fun d hd=>by cases hd⟩,Nat.zero_le _,fun e he=>by cases he⟩
 unfold segOf
 cases confS c
 ·exact none_
 cases h:docsS docs
 ·exact none_
 ·exact⟨docs_fit h,(seg_fits h).le (by omega)⟩
end Go.Fk
