/-
  Drawn words are words. Of no program.
-/
import Derived.Test.YtajfhpaokbgmeaaLawHead
import Derived.Test.YtajfhpaokbgmeaaLawDrawW
namespace Go.Fk
open Go

theorem word_ok (F : Nat) (r : GL30Rd) (hr : RdOk r) : ∃ s, M.spec_l30Word F r = some (s, ⟨r.b_, r.p_ + 1⟩) ∧ wordS s = true := by
  unfold M.spec_l30Word
  obtain ⟨s, hm, hs⟩ := of_ok F r (l := ([([99, 97, 116] : Str), ([99, 97, 116, 115] : Str), ([99, 97, 114] : Str), ([99, 97, 114, 116] : Str), ([100, 111, 103] : Str), ([116, 97, 112] : Str), ([116, 111, 112, 115] : Str), ([97, 98, 99, 100, 101, 102, 103, 104, 105, 106, 107, 108] : Str), ([97] : Str), ([97, 99, 97, 116] : Str)] : List Str)) hr (by simp)
  rw [hs]
  exact ⟨s, rfl, (by decide : ∀ s ∈ ([([99, 97, 116] : Str), ([99, 97, 116, 115] : Str), ([99, 97, 114] : Str), ([99, 97, 114, 116] : Str), ([100, 111, 103] : Str), ([116, 97, 112] : Str), ([116, 111, 112, 115] : Str), ([97, 98, 99, 100, 101, 102, 103, 104, 105, 106, 107, 108] : Str), ([97] : Str), ([97, 99, 97, 116] : Str)] : List Str), wordS s = true) s hm⟩
theorem drawNear_ok (F : Nat) (code : List UInt8) : ∃ a b, M.spec_DrawNearFar F code = some (a, b) ∧ wordS a = true := by
  unfold M.spec_DrawNearFar
  obtain ⟨r, hr, h1, h2⟩ := open_ok F code
  rw [hr, Option.bind_some]
  obtain ⟨a, ha, hw⟩ := word_ok F r ⟨h1, by omega, by omega⟩
  rw [ha, Option.bind_some]
  dsimp only
  obtain ⟨x, hx, _⟩ := pick_ok F ⟨r.b_, r.p_ + 1⟩ 10 ⟨h1, by simp only; omega, by simp only; omega⟩
  rw [hx, Option.bind_some]
  dsimp only
  cases x == (0 : Int)
  · obtain ⟨b, hb, _⟩ := word_ok F ⟨r.b_, r.p_ + 1 + 1⟩ ⟨h1, by simp only; omega, by simp only; omega⟩
    rw [cond_false, hb]
    exact ⟨a, b, rfl, hw⟩
  · exact ⟨a, _, rfl, hw⟩
end Go.Fk
