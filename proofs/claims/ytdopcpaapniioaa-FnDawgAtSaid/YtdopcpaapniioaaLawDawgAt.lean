/-
  Each rank has a word: the law in plain data. Of no program.
-/
import Derived.Test.YtdopcpaapniioaaLawDrawDawg
import Derived.Test.YtdopcpaapniioaaLawSpecAll
namespace Go.Fk
open Go

theorem drawAt_ok (F : Nat) (code : List UInt8) (hF : 4000000 ≤ F) : ∃ d n, M.spec_DrawDawgAt F code = some (d, n) ∧ DawgFit d ∧ -10 ≤ n ∧ n ≤ 10 := by
  unfold M.spec_DrawDawgAt
  obtain ⟨r, hr, h1, h2⟩ := open_ok F code
  rw [hr, Option.bind_some]
  obtain ⟨d, p, hd, p0, p1, hfit⟩ := drawnDawg_ok F r ⟨h1, by omega, by omega⟩ hF
  rw [hd, Option.bind_some]
  dsimp only
  obtain ⟨a, ha, a0, a1⟩ := pick_ok F ⟨r.b_, p⟩ 10 ⟨h1, by simp only; omega, by simp only; omega⟩
  have a1 := a1 (by omega)
  rw [ha, Option.bind_some, w64_of ⟨by omega, by omega⟩]
  exact ⟨_, _, rfl, hfit, by omega, by omega⟩
theorem law_at (code : List UInt8) : ∃ F, M.laws_FnDawgAt F code = some true := by
  refine ⟨5000000, ?_⟩
  generalize hF : 5000000 = F
  unfold M.laws_FnDawgAt
  cases decide ((1048576 : Int) < (code.length : Int))
  case true => rfl
  obtain ⟨d, n, hw, ⟨hl, ha⟩, n0, n1⟩ := drawAt_ok F code (by omega)
  have ha' : ∀ s ∈ d, s.Arcs.length ≤ 1048576 := fun s hs => by have := ha s hs; omega
  have hi := implAt_ok F d n (by omega) (by omega)
  have hs := specAt_ok F d n (by omega) (by omega) ha'
  rw [cond_false, hw, Option.bind_some]
  dsimp only
  rw [hi, Option.bind_some, hs, Option.bind_some, beq_self_eq_true, Bool.not_true, cond_false, Option.bind_some, Option.bind_some, beq_self_eq_true, w64_of ⟨by omega, by omega⟩, implAt_ok F d (n + 1) (by omega) (by omega), rank_ok F d _ (by omega) (by omega)]
  cases hok : okS d with
  | false => rfl
  | true =>
    have hdw := (okS_iff d).1 hok
    have hasc := hdw.up.asc
    simp only [if_true]
    generalize wordsOf d = ws at *
    by_cases h : 0 ≤ n ∧ n < ws.length
    · obtain ⟨k, rfl⟩ := Int.eq_ofNat_of_zero_le h.1
      have hk : k < ws.length := by omega
      have e1 : atS ws (k : Int) = ws[k] := by
        unfold atS
        rw [if_pos h]
        simp [List.getElem?_eq_getElem hk]
      rw [e1]
      cases ws[k] == ([] : Str) with
      | true => rfl
      | false =>
        rw [cond_false, Option.bind_some, Option.bind_some, rankS_at hasc hk, beq_self_eq_true, cond_true]
        by_cases h2 : k + 1 < ws.length
        · have e2 : atS ws ((k : Int) + 1) = ws[k + 1] := by
            unfold atS
            rw [if_pos ⟨by omega, by omega⟩, show ((k : Int) + 1).toNat = k + 1 by omega]
            simp [List.getElem?_eq_getElem h2]
          rw [e2, List.pairwise_iff_getElem.1 hasc k (k + 1) hk h2 (by omega)]
          cases ws[k + 1] == ([] : Str) <;> rfl
        · have e2 : atS ws ((k : Int) + 1) = [] := by
            unfold atS
            rw [if_neg (by omega)]
          rw [e2]; rfl
    · have e1 : atS ws n = [] := by
        unfold atS
        rw [if_neg h]
      rw [e1]; rfl
end Go.Fk
