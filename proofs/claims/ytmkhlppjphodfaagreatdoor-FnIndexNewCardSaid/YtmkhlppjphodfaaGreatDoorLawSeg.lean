/-
  What the reference makes of documents: the segment. Of no program.
-/
import Derived.Test.YtmkhlppjphodfaaGreatDoorLawOrd
import Derived.Test.YtmkhlppjphodfaaGreatDoorLawTermsA
import Derived.Test.YtmkhlppjphodfaaGreatDoorLawDocs
set_option linter.unusedVariables false
namespace Go.Fk
open Go

def fieldS (d : GDoc) (n : Str) : Str := (d.Fields.find? fun f => f.Name == n).elim [] (·.Text)
def putsS (a : List Str) (ts : List GTerm) : List Str := ts.foldl (fun a t => insS t.Text a) a
def namesS (docs : List GDoc) : List Str := docs.foldl (fun a d => d.Fields.foldl (fun a f => insS f.Name a) a) []
def ftermsS (c : GConf) (docs : List GDoc) (n : Str) : List Str := docs.foldl (fun a d => putsS a (termsS c (fieldS d n))) []
def postS (c : GConf) (d : GDoc) (n t : Str) : List Int := (termsS c (fieldS d n)).flatMap fun x => if x.Text == t then [x.At] else []
def docPost (c : GConf) (n t : Str) (d : GDoc) : List GPost := if decide (0 < (postS c d n t).length) then [⟨d.Id, postS c d n t⟩] else []
def entryS (c : GConf) (docs : List GDoc) (n t : Str) : GEntry := ⟨n, t, docs.flatMap (docPost c n t)⟩
def segS (c : GConf) (docs : List GDoc) : GSeg := ⟨docs, (namesS docs).flatMap fun n => (ftermsS c docs n).map (entryS c docs n)⟩

end Go.Fk
