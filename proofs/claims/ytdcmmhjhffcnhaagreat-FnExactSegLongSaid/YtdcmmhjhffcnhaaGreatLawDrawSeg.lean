/-
  The draws of configurations and segments go through. Of no program.
-/
import Derived.Test.YtdcmmhjhffcnhaaGreatLawSegM
import Derived.Test.YtdcmmhjhffcnhaaGreatLawDrawDocs
set_option linter.unusedVariables false
namespace Go.Fk
open Go

def stopsD : List (List Str) := [[], [[116, 104, 101]], [[100, 111, 103], [116, 104, 101]]]
def synsD : List (List GSyn) := [[], [⟨[[110, 101, 119], [121, 111, 114, 107]], [110, 121]⟩], [⟨[[98, 105, 103]], [108, 97, 114, 103]⟩, ⟨[[98, 105, 103], [114, 101, 100], [102, 111, 120]], [102, 111, 120]⟩, ⟨[[110, 101, 119], [121, 111, 114, 107]], [110, 121]⟩]]
def ConfDrawn (c : GConf) : Prop := c.Stops ∈ stopsD ∧ c.Syns ∈ synsD
theorem fits_of_mem {B : Nat} {c : GConf} (h1 : c.Stops.length ≤ B ∧ ∀ s ∈ c.Stops, s.length ≤ B) (h2 : c.Syns.length ≤ B ∧ ∀ r ∈ c.Syns, r.To.length ≤ B ∧ r.From.length ≤ B ∧ ∀ w ∈ r.From, w.length ≤ B) : ConfFit B c := by
  constructor
  · exact h1
  · exact ⟨h2.1, fun r hr => ⟨(h2.2 r hr).2.1, (h2.2 r hr).1, (h2.2 r hr).2.2⟩⟩
theorem stops_fit : ∀ a ∈ stopsD, a.length ≤ 90 ∧ ∀ s ∈ a, s.length ≤ 100 := by decide
theorem syns_fit : ∀ a ∈ synsD, a.length ≤ 90 ∧ ∀ r ∈ a, r.To.length ≤ 100 ∧ r.From.length ≤ 100 ∧ ∀ w ∈ r.From, w.length ≤ 100 := by decide
theorem ConfDrawn.fit {c : GConf} (h : ConfDrawn c) : ConfFit 100 c := by
  obtain ⟨a1, a2⟩ := stops_fit _ h.1
  obtain ⟨b1, b2⟩ := syns_fit _ h.2
  exact fits_of_mem ⟨by omega, a2⟩ ⟨by omega, b2⟩
end Go.Fk
