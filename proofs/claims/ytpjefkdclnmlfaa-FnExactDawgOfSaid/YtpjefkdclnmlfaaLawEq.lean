/-
  Lists held against each other; what an automaton of words is. Of no program.
-/
import Derived.Test.YtpjefkdclnmlfaaLawPut
namespace Go.Fk
open Go
theorem dawg_good (ws:List Str):Good (dawgS ws)∧(dawgS ws).length≤500:=by
 unfold dawgS
 cases h:upS ws
 ·exact⟨Good.nil,by simp⟩
 ·have hu:=(up_iff ws).1 h
  have hb:=built 12 [] ws Good.nil hu.fit.asc hu.fit.lens
  have hl:=build_len 13 [] ws
  have:=hu.tot
  simp only [List.length_nil] at hl
  exact⟨hb.good,by rw [if_pos rfl];omega⟩
end Go.Fk
