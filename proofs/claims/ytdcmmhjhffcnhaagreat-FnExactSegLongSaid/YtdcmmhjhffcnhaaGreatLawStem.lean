/-
  The stem of a word: the program and the reference find the same. Of no program.
-/
import Derived.Test.YtdcmmhjhffcnhaaGreatLawBase
import Derived.Test.YtdcmmhjhffcnhaaGreatLawDocs
set_option linter.unusedVariables false
namespace Go.Fk
open Go

def ends : List Str := [[105, 110, 103], [101, 100], [101, 115], [108, 121], [115]]
def cutE (s e : Str) : Bool := decide (e.length + 3 ≤ s.length) && (s.drop (s.length - e.length) == e)
def cutS (s e : Str) : Str := s.take (s.length - e.length)
def onceS (s : Str) : Str := (ends.find? (cutE s)).elim s (cutS s)
theorem ends_len {e : Str} (h : e ∈ ends) : 1 ≤ e.length ∧ e.length ≤ 3 := by
  simp only [ends, List.mem_cons, List.not_mem_nil, or_false] at h
  rcases h with rfl | rfl | rfl | rfl | rfl <;> decide
theorem once_cases (s : Str) : (ends.find? (cutE s) = none ∧ onceS s = s) ∨ ∃ e, ends.find? (cutE s) = some e ∧ onceS s = cutS s e ∧ 1 ≤ e.length ∧ e.length + 3 ≤ s.length := by
  unfold onceS
  cases h : ends.find? (cutE s) with
  | none => exact .inl ⟨rfl, rfl⟩
  | some e =>
    have h1 := List.find?_some h
    have h2 := ends_len (List.mem_of_find?_eq_some h)
    simp only [cutE, Bool.and_eq_true, decide_eq_true_iff] at h1
    exact .inr ⟨e, rfl, rfl, h2.1, h1.1⟩
theorem once_shorter {s : Str} (h : onceS s ≠ s) : (onceS s).length < s.length := by
  rcases once_cases s with ⟨_, h1⟩ | ⟨e, _, h1, h2, h3⟩
  · exact absurd h1 h
  · rw [h1, cutS, List.length_take]; omega
theorem once_ne {s e : Str} (h : ends.find? (cutE s) = some e) : onceS s ≠ s := by
  rcases once_cases s with ⟨h0, _⟩ | ⟨e', h1, h2, h3, h4⟩
  · rw [h] at h0; cases h0
  · intro h5
    have := congrArg List.length h5
    rw [h2, cutS, List.length_take] at this; omega
theorem once_len (s : Str) : (onceS s).length ≤ s.length := by
  rcases once_cases s with ⟨_, h1⟩ | ⟨e, _, h1, h2, h3⟩
  · rw [h1]; exact Nat.le_refl _
  · rw [h1, cutS, List.length_take]; omega
def stemS (s : Str) : Str := if h : onceS s = s then s else stemS (onceS s)
termination_by s.length
decreasing_by exact once_shorter h
theorem stem_done {s : Str} (h : onceS s = s) : stemS s = s := by rw [stemS, dif_pos h]
theorem stem_go {s : Str} (h : onceS s ≠ s) : stemS s = stemS (onceS s) := by rw [stemS, dif_neg h]
theorem stem_ind {P : Str → Str → Prop} (h0 : ∀ s, onceS s = s → P s s) (h1 : ∀ s t, onceS s ≠ s → P (onceS s) t → P s t) : ∀ s, P s (stemS s) := by
  intro s
  induction hn : s.length using Nat.strongRecOn generalizing s with
  | _ n ih =>
    subst hn
    by_cases h : onceS s = s
    · rw [stem_done h]; exact h0 s h
    · rw [stem_go h]; exact h1 s _ h (ih _ (once_shorter h) _ rfl)
theorem stem_len (s : Str) : (stemS s).length ≤ s.length := stem_ind (P := fun s t => t.length ≤ s.length) (fun s _ => Nat.le_refl _) (fun s t _ h => Nat.le_trans h (once_len s)) s
theorem subS_all {s : Str} {k : Nat} (h : k ≤ s.length) : subS s (k : Int) s.length = some (s.drop k) := by
  rw [subS, if_pos (by omega)]
  simp
theorem subS_to {s : Str} {k : Nat} (h : k ≤ s.length) : subS s 0 (k : Int) = some (s.take k) := by
  rw [subS, if_pos (by omega)]
  simp
theorem hasSuffix (F : Nat) (s e : Str) (hs : s.length ≤ 2000000) : M.strings_HasSuffix F s e = some (decide (e.length ≤ s.length) && (s.drop (s.length - e.length) == e)) := by
  unfold M.strings_HasSuffix M.stringslite_HasSuffix
  by_cases h : e.length ≤ s.length
  · rw [decide_eq_true (show (e.length : Int) ≤ s.length by omega), cond_true, decide_eq_true h, w64_of ⟨by omega, by omega⟩, show (s.length : Int) - e.length = ((s.length - e.length : Nat) : Int) by omega, subS_all (by omega)]
    rfl
  · rw [decide_eq_false (show ¬ (e.length : Int) ≤ s.length by omega), cond_false, decide_eq_false h]
    rfl
theorem cut_alt (s e : Str) : ((decide (e.length ≤ s.length) && (s.drop (s.length - e.length) == e)) && decide (e.length + 3 ≤ s.length)) = cutE s e := by
  unfold cutE
  by_cases h : e.length + 3 ≤ s.length
  · rw [decide_eq_true h, decide_eq_true (show e.length ≤ s.length by omega)]; simp
  · rw [decide_eq_false h]; simp
theorem spec_ends (F : Nat) : M.spec_l2Ends F = some ends := rfl
theorem spec_once (F : Nat) (s : Str) (hs : s.length ≤ 2000000) (hF : 5 < F) : M.spec_l2Once F s = some (onceS s) := by
  unfold M.spec_l2Once
  rw [find_while (xs := ends) (cutE s) (fun e => Sum.inr (cutS s e)) (e := Sum.inl ()) F hF (fun i e he => ?_) ?_]
  · unfold onceS
    cases ends.find? (cutE s) <;> rfl
  · rw [spec_ends, Option.bind_some, decide_eq_false (by omega)]; rfl
  · have hi := (List.getElem?_eq_some_iff.1 he).1
    have hel := ends_len (List.mem_of_getElem? he)
    rw [spec_ends, Option.bind_some, decide_eq_true (by omega), cond_true, Option.bind_some, getI_nat', he, Option.bind_some]
    have hw : w64 ((s.length : Int) - (e.length : Int)) = (s.length : Int) - e.length := w64_of ⟨by omega, by omega⟩
    rw [hw]
    unfold cutE
    by_cases h : e.length + 3 ≤ s.length
    · rw [decide_eq_true (show (3 : Int) ≤ (s.length : Int) - e.length by omega), cond_true, decide_eq_true h, show (s.length : Int) - e.length = ((s.length - e.length : Nat) : Int) by omega, subS_all (by omega), Option.bind_some, Option.bind_some, Bool.true_and]
      cases s.drop (s.length - e.length) == e
      · rw [cond_false, w64_succ' (by have : ends.length = 5 := rfl; omega)]; rfl
      · rw [cond_true, subS_to (by omega)]; rfl
    · rw [decide_eq_false (show ¬ (3 : Int) ≤ (s.length : Int) - e.length by omega), cond_false, decide_eq_false h, Option.bind_some, cond_false, w64_succ' (by have : ends.length = 5 := rfl; omega)]; rfl
theorem spec_stem (F : Nat) (s : Str) (hs : s.length ≤ 2000000) (hF : s.length + 6 < F) : M.spec_l2Stem F s = some (stemS s) := by
  have key : ∀ (G : Nat) (t : Str), t.length < G → t.length ≤ 2000000 → whileM (σ := Str) (τ := Str) (fun (s10 : Str) => (Option.bind (M.spec_l2Once F s10) fun r22 => (cond (!(r22 == s10)) (Option.bind (M.spec_l2Once F s10) fun r33 => (some (.inl r33))) (some (.inr s10))))) G t = some (stemS t) := by
    intro G
    induction G with
    | zero => intro t h; omega
    | succ G ih =>
      intro t h ht
      rw [whileM, spec_once F t ht (by omega), Option.bind_some]
      by_cases he : onceS t = t
      · rw [he, stem_done he]; simp
      · rw [stem_go he, show (onceS t == t) = false from by simpa using he]
        simp only [Bool.not_false, cond_true, Option.bind_some, Sum.elim_inl]
        exact ih _ (by have := once_shorter he; omega) (by have := once_shorter he; omega)
  unfold M.spec_l2Stem
  rw [key F s (by omega) hs]; rfl
theorem stem_loop {f : Str × Bool → Option ((Str × Bool) ⊕ Str)} (h1 : ∀ t : Str, t.length ≤ 2000000 → f (t, true) = some (.inl (onceS t, !(onceS t == t)))) (h2 : ∀ t, f (t, false) = some (.inr t)) :
    ∀ (G : Nat) (t : Str), t.length + 1 < G → t.length ≤ 2000000 → whileM f G (t, true) = some (stemS t) := by
  intro G
  induction G with
  | zero => intro t h; omega
  | succ G ih =>
    intro t h ht
    rw [whileM, h1 t ht, Option.bind_some]
    by_cases he : onceS t = t
    · rw [he, stem_done he]
      obtain ⟨G, rfl⟩ : ∃ H, G = H + 1 := ⟨G - 1, by omega⟩
      rw [show (!(t == t)) = false from by simp]
      simp only [Sum.elim_inl]
      rw [whileM, h2]; rfl
    · rw [stem_go he, show (onceS t == t) = false from by simpa using he]
      exact ih _ (by have := once_shorter he; omega) (by have := once_shorter he; omega)
theorem impl_stem (F : Nat) (s : Str) (hs : s.length ≤ 2000000) (hF : s.length + 6 < F) : M.impl_StemOf F s = some (if wordS s then stemS s else []) := by
  unfold M.impl_StemOf
  rw [impl_word, Option.bind_some]
  cases hw : wordS s
  · rfl
  simp only [Bool.not_true, cond_false, if_true]
  rw [stem_loop (fun t ht => ?_) (fun t => ?_) F s (by omega) hs]
  · rfl
  · rw [cond_true]
    rw [show ([([105, 110, 103] : Str), ([101, 100] : Str), ([101, 115] : Str), ([108, 121] : Str), ([115] : Str)] : List Str) = ends from rfl, find_from (xs := ends) (cutE t) (fun e => (cutS t e, true)) (fun i e he => ?_)]
    · cases h : ends.find? (cutE t) with
      | none =>
        have : onceS t = t := by unfold onceS; rw [h]; rfl
        simp [this]
      | some e =>
        have h1 := once_ne h
        have h2 : onceS t = cutS t e := by unfold onceS; rw [h]; rfl
        rw [show (onceS t == t) = false from by simpa using h1, h2]; rfl
    · have hel := ends_len (List.mem_of_getElem? he)
      have hww : w64 ((t.length : Int) - (e.length : Int)) = (t.length : Int) - e.length := w64_of ⟨by omega, by omega⟩
      rw [getI_nat', he, Option.bind_some]
      simp only
      rw [hasSuffix F t e ht, Option.bind_some, hww, ← cut_alt]
      cases hq : (decide (e.length ≤ t.length) && (t.drop (t.length - e.length) == e))
      · rfl
      · rw [cond_true, Option.bind_some, Bool.true_and]
        by_cases h : e.length + 3 ≤ t.length
        · rw [decide_eq_true (show (3 : Int) ≤ (t.length : Int) - e.length by omega), decide_eq_true h, cond_true, show (t.length : Int) - e.length = ((t.length - e.length : Nat) : Int) by omega, subS_to (by omega)]; rfl
        · rw [decide_eq_false (show ¬ (3 : Int) ≤ (t.length : Int) - e.length by omega), decide_eq_false h]; rfl
  · rfl
end Go.Fk
