/-
  The law of SegPosts. Of no program.
-/
import Derived.Test.YtoeajphlomankaaGreatDoorLawSegPosts
import Derived.Test.YtoeajphlomankaaGreatDoorLawField
set_option linter.unusedVariables false
namespace Go.Fk
open Go

theorem spec_findPosts (F : Nat) (s : GSeg) (n t : Str) (hl : s.Entries.length ≤ 10000) (hF : 20000 < F) : M.spec_l7Posts F s n t = some (postsAt s n t) := by
  unfold M.spec_l7Posts postsAt
  rw [find_while (xs := s.Entries) (keyP n t) (fun e => (Sum.inr e.Posts : Unit ⊕ List GPost)) (e := Sum.inl ()) F (by omega) (fun i x hx => ?_) ?_]
  · cases s.Entries.find? (keyP n t) <;> rfl
  · rw [decide_eq_false (by omega)]; rfl
  · have hi := (List.getElem?_eq_some_iff.1 hx).1
    rw [decide_eq_true (by omega), cond_true, getI_nat', hx, Option.bind_some, Option.bind_some, Option.bind_some, w64_succ' (by omega)]
    unfold keyP
    rw [if_bif]
    cases x.Field == n
    · rfl
    · cases x.Term == t <;> rfl
theorem postsAt_fits {c : GConf} {s : GSeg} (ho : segOk c s = true) (n t : Str) : (postsAt s n t).length ≤ 10000 ∧ ∀ p ∈ postsAt s n t, p.At.length ≤ 10000 := by
  obtain ⟨h1, h2, h3⟩ := seg_is ho
  have hfit : Fits 10000 s.Entries := by rw [h3]; exact (seg_fits h2).le (by omega)
  unfold postsAt
  cases hf : s.Entries.find? (keyP n t) with
  | none => exact ⟨Nat.zero_le _, fun p hp => by cases hp⟩
  | some e => exact hfit.2 e (List.mem_of_find?_eq_some hf)
theorem drawSegPosts_ok (F : Nat) (code : List UInt8) (hF : 200000 < F) : ∃ c s n t, M.spec_DrawSegPosts F code = some (c, s, n, t) ∧ ConfFit 100 c ∧ DocsFit s.Docs := by
  unfold M.spec_DrawSegPosts
  obtain ⟨r, hr, h1, h2⟩ := open_ok F code
  rw [hr, Option.bind_some]
  obtain ⟨c, s, p, hs, ⟨p0, p1⟩, hcd, hsf, _⟩ := anySeg_ok F r ⟨h1, by omega, by omega⟩ hF
  rw [hs, Option.bind_some]
  dsimp only
  obtain ⟨n, q, hn, ⟨q0, q1⟩, _⟩ := lfield_ok F ⟨r.b_, p⟩ ⟨h1, by simp only; omega, by simp only; omega⟩
  simp only at q0 q1
  rw [hn, Option.bind_some]
  dsimp only
  obtain ⟨t, _, ht⟩ := of_ok F ⟨r.b_, q⟩ [[99, 97, 116], [100, 111, 103], [114, 117, 110], [110, 121], [110, 101, 119], [102, 111, 120], [122, 122], [108, 97, 114, 103]] ⟨h1, by simp only; omega, by simp only; omega⟩ (by simp)
  rw [ht, Option.bind_some]
  exact ⟨_, _, _, _, rfl, hcd.fit, hsf⟩
end Go.Fk
