/-
  The draws of documents go through, whatever the code. Of no program.
-/
import Derived.Test.YtmkhlppjphodfaaGreatDoorLawRdAll
import Derived.Test.YtmkhlppjphodfaaGreatDoorLawDocs
namespace Go.Fk
open Go

/-- a draw: the reader goes on by at most c -/
def Drew (r : GL30Rd) (p : Int) (c : Nat) : Prop := r.p_ ≤ p ∧ p ≤ r.p_ + c
def RdAt (r : GL30Rd) (m : Nat) : Prop := r.b_.length ≤ 2000 ∧ 0 ≤ r.p_ ∧ r.p_ ≤ m
/-- a document as it is drawn: few fields, short texts -/
structure DocDrawn (f n : Nat) (d : GDoc) : Prop where
  fields : d.Fields.length ≤ f
  nums : d.Nums.length ≤ n
  field : ∀ f ∈ d.Fields, f.Name.length ≤ 1000 ∧ f.Text.length ≤ 1000
  num : ∀ a ∈ d.Nums, a.Name.length ≤ 1000
theorem DocDrawn.fit {f n : Nat} {d : GDoc} (h : DocDrawn f n d) (hf : f ≤ 100) (hn : n ≤ 100) : DocFit d := ⟨by have := h.fields; omega, by have := h.nums; omega, h.field, h.num⟩
theorem DocDrawn.more {f n f' n' : Nat} {d : GDoc} (h : DocDrawn f n d) (hf : f ≤ f') (hn : n ≤ n') : DocDrawn f' n' d := ⟨by have := h.fields; omega, by have := h.nums; omega, h.field, h.num⟩
def DocsDrawn (k : Nat) (ds : List GDoc) : Prop := ds.length ≤ k ∧ ∀ d ∈ ds, DocDrawn 3 3 d
theorem DocsDrawn.fit {k : Nat} {ds : List GDoc} (h : DocsDrawn k ds) (hk : k ≤ 100) : DocsFit ds := ⟨by have := h.1; omega, fun d hd => (h.2 d hd).fit (by omega) (by omega)⟩
end Go.Fk
