/-
  An automaton has just its words: in plain data. Of no program.
-/
import Derived.Test.YtdopcpaapniioaaLawHead
import Derived.Test.YtdopcpaapniioaaLawDrawW
namespace Go.Fk
open Go

theorem spec_wordsUp (F : Nat) (ws : List Str) (hF : ws.length < F) (hl : ws.length < 9000000000000000000) (hn : ∀ w ∈ ws, w.length < F ∧ w.length ≤ maxLen) : M.spec_WordsUp F ws = some (upS ws) := by
  unfold M.spec_WordsUp
  rw [spec_up F ws hF hl hn]; rfl
theorem law_dawgOf (code : List UInt8) : ∃ F, M.laws_FnDawgOf F code = some true := by
  refine ⟨5000000, ?_⟩
  generalize hF : 5000000 = F
  unfold M.laws_FnDawgOf
  cases decide ((1048576 : Int) < (code.length : Int))
  · obtain ⟨ws, hw, hd1, hd2⟩ := drawDawgOf_ok F code (by omega)
    obtain ⟨hg, hl⟩ := dawg_good ws
    have hA : ∀ a ∈ dawgS ws, a.Arcs.length < F ∧ a.Arcs.length < 9000000000000000000 := fun a ha => by have := hg.few a ha; omega
    have hm : 1000 ≤ maxLen := by decide
    have hn : ∀ w ∈ ws, w.length < F ∧ w.length ≤ maxLen := fun w h => by have := hd2 w h; omega
    rw [cond_false, hw, Option.bind_some, impl_dawg F ws (by omega), Option.bind_some]
    rw [spec_dawg F ws (by omega) (by omega) (by omega) hn, Option.bind_some,
      foStates_self F _ (by omega) hA (by omega), Option.bind_some, Bool.not_true, cond_false, impl_up, Option.bind_some, spec_wordsUp F ws (by omega) (by omega) hn, Option.bind_some, beq_self_eq_true, Bool.not_true, cond_false, Option.bind_some]
    cases hu : upS ws with
    | false =>
      have : dawgS ws = [] := by unfold dawgS; rw [hu]; rfl
      rw [this, show ((([] : Sts).length : Int) == 0) = true from rfl, cond_true, Option.bind_some, foStates_self F [] (show 0 < F by omega) (by simp) (by simp)]
      rfl
    | true =>
      have hi := dawg_of_up ((up_iff ws).1 hu)
      have hok := okS_of hi
      have hwo := hi.wordsOf_eq
      have hp := hi.pos
      rw [show (((dawgS ws).length : Int) == 0) = false by rw [beq_eq_false_iff_ne]; omega, cond_false, ok_ok F _ (by omega) (by omega), hok, Option.bind_some, cond_true, head_ok F _ _ (by omega) (by omega), hok, hwo, if_pos rfl, Option.bind_some]
      have hall : ws.filter (hasPre []) = ws := by
        rw [List.filter_eq_self]
        intro a _
        simp [hasPre]
      rw [hall, foTexts_self F _ (by omega) (by omega), Option.bind_some, cond_true, w64_pred (by omega) (by omega), getI_n, List.getElem?_eq_getElem (show (dawgS ws).length - 1 < (dawgS ws).length by omega), Option.bind_some,
        hi.good.many _ _ (List.getElem?_eq_getElem (show (dawgS ws).length - 1 < (dawgS ws).length by omega)), hi.words, beq_self_eq_true]
  · rfl
end Go.Fk
