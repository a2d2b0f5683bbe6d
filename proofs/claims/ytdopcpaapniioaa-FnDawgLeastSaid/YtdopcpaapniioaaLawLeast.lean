/-
  No two states of an automaton lead to the same endings: in plain data. Of no program.
-/
import Derived.Test.YtdopcpaapniioaaLawFoStates
import Derived.Test.YtdopcpaapniioaaLawDrawW
namespace Go.Fk
open Go

/-- a loop that finds no fault -/
theorem clean_while {n : Nat} {τ : Type} {f : Int → Option (Int ⊕ (Unit ⊕ τ))} (h : ∀ i : Nat, i < n → f (i : Int) = some (.inl ((i + 1 : Nat) : Int)))
    (h0 : f (n : Int) = some (.inr (.inl ()))) : ∀ k i F, i + k = n → k < F → whileM f F (i : Int) = some (.inl ())
  | 0, i, F, e, hF => by
    obtain ⟨F, rfl⟩ : ∃ G, F = G + 1 := ⟨F - 1, by omega⟩
    rw [whileM, show i = n by omega, h0]; rfl
  | k + 1, i, F, e, hF => by
    obtain ⟨F, rfl⟩ : ∃ G, F = G + 1 := ⟨F - 1, by omega⟩
    rw [whileM, h i (by omega)]
    exact clean_while h h0 k (i + 1) F (by omega) (by omega)
theorem clean0 {n : Nat} {τ : Type} {f : Int → Option (Int ⊕ (Unit ⊕ τ))} (F : Nat) (hF : n < F) (h : ∀ i : Nat, i < n → f (i : Int) = some (.inl ((i + 1 : Nat) : Int)))
    (h0 : f (n : Int) = some (.inr (.inl ()))) : whileM f F (0 : Int) = some (.inl ()) := clean_while h h0 n 0 F (by omega) hF
theorem law_least (code : List UInt8) : ∃ F, M.laws_FnDawgLeast F code = some true := by
  refine ⟨5000000, ?_⟩
  generalize hF : 5000000 = F
  unfold M.laws_FnDawgLeast
  cases decide ((1048576 : Int) < (code.length : Int))
  · obtain ⟨ws, hw, hd1, hd2⟩ := drawDawgOf_ok F code (by omega)
    obtain ⟨hg, hl⟩ := dawg_good ws
    have hA : ∀ a ∈ dawgS ws, a.Arcs.length < F ∧ a.Arcs.length < 9000000000000000000 := fun a ha => by have := hg.few a ha; omega
    have hm : 1000 ≤ maxLen := by decide
    rw [cond_false, hw, Option.bind_some, impl_dawg F ws (by omega), Option.bind_some, spec_dawg F ws (by omega) (by omega) (by omega) (fun w h => by have := hd2 w h; omega), Option.bind_some,
      foStates_self F _ (by omega) hA (by omega), Option.bind_some, Bool.not_true, cond_false]
    generalize dawgS ws = d at *
    rw [clean0 (n := d.length) F (by omega) (fun i hi => ?_) (by rw [decide_eq_false (by omega)]; rfl)]
    · rfl
    · have hx : d[i]? = some d[i] := List.getElem?_eq_getElem hi
      have hfew := hg.few d[i] (List.getElem_mem hi)
      rw [decide_eq_true (by omega), cond_true, clean0 (n := d[i].Arcs.length) F (by omega) (fun k hk => ?_) ?_]
      · rw [Option.bind_some]
        simp only [Sum.elim_inl, Option.bind_some]
        rw [clean0 (n := i) F (by omega) (fun k hk => ?_) ?_]
        · simp only [Option.bind_some, Sum.elim_inl]
          rw [w64_up (by omega)]
        · rw [decide_eq_false (by omega)]; rfl
        · have hy : d[k]? = some d[k] := List.getElem?_eq_getElem (by omega)
          rw [decide_eq_true (by omega), cond_true, w64_up (by omega), w64_up (by omega), subL_n (by omega) (by omega), Option.bind_some, subL_n (by omega) (by omega), Option.bind_some]
          have e1 : ∀ j, (h : j < d.length) → (d.take (j + 1)).drop j = [d[j]] := fun j h => by
            rw [List.drop_take, show j + 1 - j = 1 by omega, List.drop_eq_getElem_cons h]; rfl
          rw [e1 i hi, e1 k (by omega), foStates_ok F _ _ (by simp only [List.length_singleton]; omega) (fun a ha => by rw [List.mem_singleton.1 ha]; omega) (by simp), Option.bind_some]
          have : eqBy sameS [d[i]] [d[k]] = false := by
            rw [Bool.eq_false_iff]
            intro h
            rw [eqBy_iff sameS_iff] at h
            injection h with h
            rw [h] at hx
            have := hg.dist i k _ hx hy
            omega
          rw [this, cond_false]
      · rw [getI_n, hx, Option.bind_some, decide_eq_false (by omega)]; rfl
      · have hp : d[i].Arcs[k]? = some d[i].Arcs[k] := List.getElem?_eq_getElem hk
        have hdn := hg.down i _ hx d[i].Arcs[k] (List.getElem_mem hk)
        rw [getI_n, hx, Option.bind_some, decide_eq_true (by omega), cond_true, Option.bind_some, getI_n, hp, Option.bind_some, decide_eq_false (show ¬ (i : Int) ≤ d[i].Arcs[k].To by omega), cond_false]
        by_cases h0 : k = 0
        · subst h0; rfl
        · rw [decide_eq_true (by omega), cond_true, Option.bind_some, getI_n, hp, Option.bind_some, Option.bind_some, w64_pred (by omega) (by omega), getI_n, List.getElem?_eq_getElem (show k - 1 < d[i].Arcs.length by omega), Option.bind_some]
          have hb := List.pairwise_iff_getElem.1 (hg.bytes i _ hx) (k - 1) k (by omega) hk (by omega)
          rw [decide_eq_false (fun h => by have h1 := UInt8.lt_iff_toNat_lt.1 hb; have h2 := UInt8.le_iff_toNat_le.1 h; omega), Option.bind_some, cond_false, w64_up (by omega)]
  · rfl
end Go.Fk
