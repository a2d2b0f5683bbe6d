import Derived.Test.YtpjefkdclnmlfaaLawSegIJ
/-
  The program's segment is the reference's. Of no program.
-/
set_option linter.unusedVariables false
namespace Go.Fk
open Go
end Go.Fk
set_option linter.unusedVariables false
namespace Go.Fk
open Go
theorem docS_parts {d:GDoc}(h:docS d=true):(pairS fieldOk fieldLt d.Fields=true∧pairS attrOk attrLt d.Nums=true)∧d.Fields.length≤3∧d.Nums.length≤3:=by
 unfold docS at h
 simp only [Bool.and_eq_true,decide_eq_true_iff] at h
 exact⟨h.1,by omega,by omega⟩
theorem text_len {s:Str}(h:textS s=true):s.length≤160:=by
 unfold textS at h
 simp only [Bool.and_eq_true,decide_eq_true_iff] at h
 omega
theorem doc_texts {d:GDoc}(h:docS d=true){f:GField}(hf:f∈d.Fields):wordS f.Name=true∧textS f.Text=true:=by
 have:=(pairS_ok (docS_parts h).1.1).1 f hf
 unfold fieldOk at this
 simpa using this
theorem doc_fit {d:GDoc}(h:docS d=true):DocFit d:=by
 obtain⟨⟨h1,h2⟩,h3,h4⟩:=docS_parts h
 refine⟨by omega,by omega,fun f hf=>?_,fun a ha=>?_⟩
 ·obtain⟨k1,k2⟩:=doc_texts h hf
  have:=text_len k2
  have:=word_le k1
  omega
 ·have:=(pairS_ok h2).1 a ha
  unfold attrOk at this
  simp only [Bool.and_eq_true] at this
  have:=word_le this.1
  omega
theorem docs_all {docs:List GDoc}(h:docsS docs=true):docs.length≤16∧∀d∈docs,docS d=true:=by
 unfold docsS at h
 rw [Bool.and_eq_true,decide_eq_true_iff] at h
 exact⟨by omega,(pairS_ok h.1).1⟩
theorem docs_fit {docs:List GDoc}(h:docsS docs=true):DocsFit docs:=⟨by have:=(docs_all h).1;omega,fun d hd=>doc_fit ((docs_all h).2 d hd)⟩
end Go.Fk
set_option linter.unusedVariables false
namespace Go.Fk
open Go
end Go.Fk
