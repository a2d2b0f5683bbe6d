/-
  Both, either, less, so many times: what the questions are worth. The laws, on the models.
-/
import Derived.Test.YtmkhlppjphodfaaGreatDoorLawSc
import Derived.Test.YtmkhlppjphodfaaGreatDoorLawDrs
set_option linter.unusedVariables false
namespace Go.Fk
open Go
def N7 (c : q9) (s : z2) (d : Nat) (q : r5) (id : Int) : Int := if O9 c s then (s.Docs.find? fun x => x.Id == id).elim 0 (A9 c s d q) else 0
theorem a2K (F : Nat) {c : q9} {s : z2} {d : Nat} {q : r5} (id : Int) (hg : H5 d q) (hd : d ≤ 4) (hl : s.Docs.length ≤ 1000000) (hc : c.Stops.length ≤ 2000000) (hF : 1000000100 < F) : N9 F c s q id = some (N7 c s d q id) := by
 unfold N9 N7
 rw [a7z, a8, b3u F c s (by omega) hc (by omega), a8]
 cases ho : O9 c s with
 | false => rfl
 | true =>
  rw [l5, g8, b0s F hg hd (by omega), a8, l5, g8, if_pos rfl]
  cases hf : s.Docs.find? fun x => x.Id == id with
  | none => rfl
  | some x =>
   simp only [Option.elim, l5, a8, g8]
   rw [a82 c s x ho (List.mem_of_find?_eq_some hf) hg hd F (by omega)]; rfl
end Go.Fk
