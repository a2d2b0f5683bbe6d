/-
  A document's field. Of no program.
-/
import Derived.Test.YtoeajphlomankaaGreatDoorLawFoSeg
set_option linter.unusedVariables false
namespace Go.Fk
open Go
theorem impl_docField (F : Nat) (d : GDoc) (n : Str) : M.impl_DocField F d n = some (if docS d then fieldS d n else []) := by
 unfold M.impl_DocField fieldS
 rw [impl_doc, Option.bind_some]
 cases docS d
 ·rfl
 rw [cond_true, if_pos rfl, find_from (xs := d.Fields) (fun f => f.Name == n) (fun f => f.Text) (fun i x hx => ?_)]
 ·cases d.Fields.find? fun f => f.Name == n <;> rfl
 ·rw [getI_nat', hx, Option.bind_some, if_bif]
  cases x.Name == n <;> rfl
theorem field_text {d : GDoc} (h : docS d = true) (n : Str) : textS (fieldS d n) = true := by
 unfold fieldS
 cases hf : d.Fields.find? fun f => f.Name == n with
 | none => rfl
 | some f => exact (doc_texts h (List.mem_of_find?_eq_some hf)).2
end Go.Fk
