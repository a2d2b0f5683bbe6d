/-
  The draws of configurations and segments go through. Of no program.
-/
import Derived.Test.YtmkhlppjphodfaaGreatDoorLawSegKL
import Derived.Test.YtmkhlppjphodfaaGreatDoorLawDrawDocs
set_option linter.unusedVariables false
namespace Go.Fk
open Go

def stopsD : List (List Str) := [[], [[116, 104, 101]], [[100, 111, 103], [116, 104, 101]]]
def synsD : List (List GSyn) := [[], [⟨[[110, 101, 119], [121, 111, 114, 107]], [110, 121]⟩], [⟨[[98, 105, 103]], [108, 97, 114, 103]⟩, ⟨[[98, 105, 103], [114, 101, 100], [102, 111, 120]], [102, 111, 120]⟩, ⟨[[110, 101, 119], [121, 111, 114, 107]], [110, 121]⟩]]
def ConfDrawn (c : GConf) : Prop := c.Stops ∈ stopsD ∧ c.Syns ∈ synsD
theorem conf_ok (F : Nat) (r : GL30Rd) (hr : RdAt r 900000) : ∃ c p, M.spec_l30Conf F r = some (c, ⟨r.b_, p⟩) ∧ Drew r p 3 ∧ ConfDrawn c := by
  obtain ⟨h1, h2, h3⟩ := hr
  unfold M.spec_l30Conf
  obtain ⟨a, ha, _, _⟩ := pick_ok F r 3 ⟨h1, h2, by omega⟩
  obtain ⟨b, hb, _, _⟩ := pick_ok F ⟨r.b_, r.p_ + 1⟩ 4 ⟨h1, by simp only; omega, by simp only; omega⟩
  obtain ⟨d, hd, _, _⟩ := pick_ok F ⟨r.b_, r.p_ + 1 + 1⟩ 4 ⟨h1, by simp only; omega, by simp only; omega⟩
  rw [ha, Option.bind_some]
  have c1 : ∃ st, (cond (decide ((0 : Int) < a)) (some (GConf.mk ([([116, 104, 101] : Str)] : List Str) ([] : List GSyn))) (some (GConf.mk ([] : List Str) ([] : List GSyn)))) = some (GConf.mk st []) ∧ st ∈ stopsD := by
    cases decide ((0 : Int) < a)
    · exact ⟨_, rfl, by simp [stopsD]⟩
    · exact ⟨_, rfl, by simp [stopsD]⟩
  obtain ⟨st, e1, m1⟩ := c1
  have e1' : (cond (decide ((0 : Int) < (a, GL30Rd.mk r.b_ (r.p_ + 1)).1)) (some (GConf.mk ([([116, 104, 101] : Str)] : List Str) ([] : List GSyn))) (some (GConf.mk ([] : List Str) ([] : List GSyn)))) = some (GConf.mk st []) := e1
  rw [e1', Option.bind_some]
  dsimp only
  rw [hb, Option.bind_some]
  dsimp only
  have c2 : ∃ st', (cond (b == (0 : Int)) (some (GConf.mk ([([100, 111, 103] : Str), ([116, 104, 101] : Str)] : List Str) ([] : List GSyn))) (some (GConf.mk st []))) = some (GConf.mk st' []) ∧ st' ∈ stopsD := by
    cases b == (0 : Int)
    · exact ⟨_, rfl, m1⟩
    · exact ⟨_, rfl, by simp [stopsD]⟩
  obtain ⟨st', e2, m2⟩ := c2
  rw [e2, Option.bind_some, hd, Option.bind_some]
  dsimp only
  cases d == (0 : Int)
  · cases d == (1 : Int)
    · exact ⟨_, _, rfl, ⟨by omega, by omega⟩, m2, by simp [synsD]⟩
    · exact ⟨_, _, rfl, ⟨by omega, by omega⟩, m2, by simp [synsD]⟩
  · exact ⟨_, _, rfl, ⟨by omega, by omega⟩, m2, by simp [synsD]⟩
theorem fits_of_mem {B : Nat} {c : GConf} (h1 : c.Stops.length ≤ B ∧ ∀ s ∈ c.Stops, s.length ≤ B) (h2 : c.Syns.length ≤ B ∧ ∀ r ∈ c.Syns, r.To.length ≤ B ∧ r.From.length ≤ B ∧ ∀ w ∈ r.From, w.length ≤ B) : ConfFit B c := by
  constructor
  · exact h1
  · exact ⟨h2.1, fun r hr => ⟨(h2.2 r hr).2.1, (h2.2 r hr).1, (h2.2 r hr).2.2⟩⟩
theorem stops_fit : ∀ a ∈ stopsD, a.length ≤ 90 ∧ ∀ s ∈ a, s.length ≤ 100 := by decide
theorem syns_fit : ∀ a ∈ synsD, a.length ≤ 90 ∧ ∀ r ∈ a, r.To.length ≤ 100 ∧ r.From.length ≤ 100 ∧ ∀ w ∈ r.From, w.length ≤ 100 := by decide
theorem ConfDrawn.fit {c : GConf} (h : ConfDrawn c) : ConfFit 100 c := by
  obtain ⟨a1, a2⟩ := stops_fit _ h.1
  obtain ⟨b1, b2⟩ := syns_fit _ h.2
  exact fits_of_mem ⟨by omega, a2⟩ ⟨by omega, b2⟩
theorem anyConf_ok (F : Nat) (r : GL30Rd) (hr : RdAt r 800000) : ∃ c p, M.spec_l30AnyConf F r = some (c, ⟨r.b_, p⟩) ∧ Drew r p 4 ∧ ConfFit 100 c := by
  obtain ⟨h1, h2, h3⟩ := hr
  unfold M.spec_l30AnyConf
  obtain ⟨c, p, hc, ⟨q1, q2⟩, hd⟩ := conf_ok F r ⟨h1, h2, by omega⟩
  obtain ⟨x, hx, _, _⟩ := pick_ok F ⟨r.b_, p⟩ 14 ⟨h1, by simp only; omega, by simp only; omega⟩
  rw [hc, Option.bind_some]
  dsimp only
  rw [hx, Option.bind_some]
  dsimp only
  obtain ⟨a1, a2⟩ := stops_fit _ hd.1
  obtain ⟨b1, b2⟩ := syns_fit _ hd.2
  have more : ∀ y : GSyn, (y.To.length ≤ 100 ∧ y.From.length ≤ 100 ∧ ∀ w ∈ y.From, w.length ≤ 100) → catL 40 c.Syns [y] = some (c.Syns ++ [y]) ∧ ConfFit 100 ⟨c.Stops, c.Syns ++ [y]⟩ := fun y hy =>
    ⟨catLok (by simp only [List.length_singleton]; omega), fits_of_mem ⟨by simp only; omega, a2⟩ ⟨by simp only [List.length_append, List.length_singleton]; omega, fun z hz => by
      rcases List.mem_append.1 hz with hz | hz
      · exact b2 z hz
      · rw [List.mem_singleton] at hz; subst hz; exact hy⟩⟩
  cases x == (0 : Int)
  · cases x == (1 : Int)
    · cases x == (2 : Int)
      · cases x == (3 : Int)
        · exact ⟨_, _, rfl, ⟨by omega, by omega⟩, hd.fit⟩
        · obtain ⟨e, f⟩ := more ⟨[[116, 104, 101], [99, 97, 116]], [99, 97, 116]⟩ (by decide)
          rw [cond_false, cond_false, cond_false, cond_true, e]
          exact ⟨_, _, rfl, ⟨by omega, by omega⟩, f⟩
      · obtain ⟨e, f⟩ := more ⟨[], [99, 97, 116]⟩ (by decide)
        rw [cond_false, cond_false, cond_true, e]
        exact ⟨_, _, rfl, ⟨by omega, by omega⟩, f⟩
    · obtain ⟨e, f⟩ := more ⟨[[99, 97, 116, 115]], [99, 97, 116]⟩ (by decide)
      rw [cond_false, cond_true, e]
      exact ⟨_, _, rfl, ⟨by omega, by omega⟩, f⟩
  · exact ⟨_, _, rfl, ⟨by omega, by omega⟩, fits_of_mem ⟨(by decide : ([[116, 104, 101], [97]] : List Str).length ≤ 100), (by decide : ∀ s ∈ ([[116, 104, 101], [97]] : List Str), s.length ≤ 100)⟩ ⟨by simp only; omega, b2⟩⟩
end Go.Fk
