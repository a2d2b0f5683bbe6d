/-
  The terms of a text, whole: the program and the reference find the same. Of no program.
-/
import Derived.Test.YtdcmmhjhffcnhaaGreatLawTerms
set_option linter.unusedVariables false
namespace Go.Fk
open Go

theorem conf_from {c : GConf} (h : confS c = true) : ∀ r ∈ c.Syns, r.From.length ≤ 3 := fun r hr => by
  unfold confS at h
  rw [Bool.and_eq_true, List.all_eq_true] at h
  have := h.2 r hr
  simp only [synOk, Bool.and_eq_true, decide_eq_true_iff] at this
  omega
theorem rew_len {syns : List GSyn} : ∀ (n : Nat) (l : List GTerm), (rewS syns n l).length ≤ n
  | 0, l => by rw [rewS]; simp
  | n + 1, [] => by rw [rewS]; simp
  | n + 1, t :: r => by
    simp only [rewS]
    cases bestS syns (t :: r) with
    | none => simp only [List.length_cons]; have := rew_len (syns := syns) n r; omega
    | some y => simp only [List.length_cons]; have := rew_len (syns := syns) n ((t :: r).drop y.From.length); omega
theorem terms_len (c : GConf) (s : Str) : (termsS c s).length ≤ s.length := by
  have h1 := rew_len (syns := c.Syns) (plainS c s).length (plainS c s)
  have h2 := plain_len c s
  unfold termsS; omega
theorem impl_terms (F : Nat) (c : GConf) (s : Str) (hs : s.length ≤ 2000000) (hc : c.Stops.length ≤ 2000000) (hF : s.length + 30 < F) : M.impl_TermsOf F c s = some (if confS c && textS s then termsS c s else []) := by
  unfold M.impl_TermsOf
  rw [impl_conf F c hc (by omega), Option.bind_some, if_bif]
  cases hcs : confS c
  · rfl
  simp only [Bool.not_true, cond_false, Bool.true_and]
  rw [impl_text, Option.bind_some, Option.bind_some]
  cases hts : textS s
  · rfl
  simp only [Bool.not_true, cond_false, cond_true]
  rw [impl_words F s hs (by omega), hts, if_pos rfl, Option.bind_some]
  have hpl := plain_len c s
  rw [fm_forE (plainOne c.Stops) 2000000 (fun i w acc hw hB => ?_) [] (by rw [List.nil_append]; unfold plainS at hpl; omega), List.nil_append, Option.bind_some, Option.bind_some]
  · have hfold : (wordsS s).flatMap (plainOne c.Stops) = plainS c s := rfl
    rw [hfold]
    have hp := conf_pos hcs
    have hfr := conf_from hcs
    obtain ⟨l, hl⟩ : ∃ l, l = plainS c s := ⟨_, rfl⟩
    rw [← hl] at hpl ⊢
    rw [whileM_eq (t := rewS c.Syns l.length l) (fun i st => ∃ (out : List GTerm) (o : Nat), st = (out, (o : Int)) ∧ i ≤ o ∧ out.length ≤ o ∧ o ≤ l.length + 3 ∧ out ++ rewS c.Syns (l.length - o) (l.drop o) = rewS c.Syns l.length l) l.length
      (fun i st hi ⟨out, o, e1, e2, e3, e4, e5⟩ => ?_) (fun st ⟨out, o, e1, e2, e3, e4, e5⟩ => ?_) l.length 0 (([] : List GTerm), (0 : Int)) F (by omega) (by omega) ⟨[], 0, rfl, by omega, by simp, by omega, by simp⟩]
    · rw [hl]; rfl
    · subst e1
      rcases Nat.lt_or_ge o l.length with hol | hol
      · refine .inl ?_
        rw [decide_eq_true (by omega), cond_true, impl_rule F c l o (by omega) hol (fun r hr => by have := hfr r hr; omega), Option.bind_some, getI_nat', List.getElem?_eq_getElem hol]
        have hr := rew_cons hp hol
        cases hb : bestS c.Syns (l.drop o) with
        | none =>
          rw [hb] at hr
          simp only [Option.isNone_none, cond_true, Option.bind_some] at hr ⊢
          rw [catLok (by simp; omega), Option.bind_some, w64_succ' (by omega)]
          exact ⟨_, rfl, _, _, rfl, by omega, by rw [List.length_append, List.length_singleton]; omega, by omega, by rw [List.append_assoc, ← e5, hr]; rfl⟩
        | some y =>
          rw [hb] at hr
          have hy := hp y (best_mem hb)
          have hy3 := hfr y (best_mem hb)
          simp only [Option.isNone_some, cond_false, Option.bind_some] at hr ⊢
          rw [catLok (by simp; omega), Option.bind_some, show (o : Int) + (y.From.length : Int) = ((o + y.From.length : Nat) : Int) by omega, w64_of ⟨by omega, by omega⟩]
          exact ⟨_, rfl, _, _, rfl, by omega, by rw [List.length_append, List.length_singleton]; omega, by omega, by rw [List.append_assoc, ← e5, hr]; rfl⟩
      · refine .inr ?_
        rw [decide_eq_false (by omega)]
        show some (Sum.inr out) = _
        rw [← e5, List.drop_of_length_le hol, rew_nil, List.append_nil]
    · subst e1
      rw [decide_eq_false (by omega)]
      show some (Sum.inr out) = _
      rw [← e5, List.drop_of_length_le (by omega), rew_nil, List.append_nil]
  · have hww := words_word (List.mem_of_getElem? hw)
    rw [getI_nat', hw, Option.bind_some, stem_in F _ hww (by omega), Option.bind_some, impl_contains, Option.bind_some, impl_contains]
    unfold plainOne at hB ⊢
    revert hB
    rw [if_bif]
    cases c.Stops.any (· == w.Text)
    · simp only [Bool.not_false, cond_true, Option.bind_some, Bool.true_and]
      cases c.Stops.any (· == stemS w.Text)
      · intro hB
        simp only [Bool.not_false, cond_true] at hB ⊢
        rw [catLok (by simp at hB ⊢; omega)]; rfl
      · intro _; simp
    · intro _; simp
theorem spec_plain (F : Nat) (c : GConf) (s : Str) (hs : s.length ≤ 2000000) (hc : c.Stops.length ≤ 2000000) (hF : s.length + 30 < F) (hF2 : c.Stops.length < F) : M.spec_l2Plain F c s = some (plainS c s) := by
  unfold M.spec_l2Plain
  have hpl := plain_len c s
  have hwl := words_len s
  rw [spec_words F s hs (by omega), Option.bind_some]
  rw [fm_while (xs := wordsS s) (plainOne c.Stops) 2000000 F (by omega) (fun i w acc hw hB => ?_) (fun acc => ?_) [] (by rw [List.nil_append]; unfold plainS at hpl; omega), List.nil_append]
  · rfl
  · have hi := (List.getElem?_eq_some_iff.1 hw).1
    have hww := words_word (List.mem_of_getElem? hw)
    have h12 := word_le hww
    have hst := stem_len w.Text
    rw [decide_eq_true (by omega), cond_true, getI_nat', hw, Option.bind_some, spec_stem F _ (by omega) (by omega), Option.bind_some, w64_succ' (by omega), Option.bind_some, spec_has F _ _ hc hF2, Option.bind_some, spec_has F _ _ hc hF2]
    unfold plainOne at hB ⊢
    revert hB
    rw [if_bif]
    cases c.Stops.any (· == w.Text)
    · simp only [Bool.not_false, cond_true, Option.bind_some, Bool.true_and]
      cases c.Stops.any (· == stemS w.Text)
      · intro hB
        simp only [Bool.not_false, cond_true] at hB ⊢
        rw [catLok (by simp at hB ⊢; omega)]; rfl
      · intro _; simp
    · intro _; simp
  · rw [decide_eq_false (by omega)]; rfl
theorem subL_tail {α : Type} {xs : List α} {k : Nat} (h : k ≤ xs.length) : subL xs (k : Int) xs.length = some (xs.drop k) := by
  rw [subL, if_pos (by omega)]; simp
theorem begins_len {l : List GTerm} {fr : List Str} (h : beginsS l fr = true) : fr.length ≤ l.length := by
  rcases Nat.lt_or_ge l.length fr.length with h1 | h1
  · rw [begins_short h1] at h; cases h
  · exact h1
theorem best_begins {syns : List GSyn} {l : List GTerm} {y : GSyn} (h : bestS syns l = some y) : beginsS l y.From = true := by
  have : ∀ (ss : List GSyn) (b : Option GSyn), (∀ z, b = some z → beginsS l z.From = true) → ∀ z, ss.foldl (better l) b = some z → beginsS l z.From = true := by
    intro ss
    induction ss with
    | nil => intro b hb z h; exact hb z h
    | cons x r ih =>
      intro b hb z h
      rw [List.foldl_cons] at h
      refine ih _ (fun z hz => ?_) z h
      unfold better at hz
      split at hz
      · rename_i hc
        cases hz
        simp only [Bool.and_eq_true] at hc
        exact hc.1
      · exact hb z hz
  exact this syns none (by simp) y h
theorem spec_terms (F : Nat) (c : GConf) (s : Str) (hcs : confS c = true) (hs : s.length ≤ 2000000) (hF : s.length + 30 < F) : M.spec_l2Terms F c s = some (termsS c s) := by
  unfold M.spec_l2Terms
  have hst := conf_stops hcs
  have hp := conf_pos hcs
  have hfr := conf_from hcs
  rw [spec_plain F c s hs (by omega) (by omega) (by omega), Option.bind_some]
  have hpl := plain_len c s
  unfold termsS
  obtain ⟨l, hl⟩ : ∃ l, l = plainS c s := ⟨_, rfl⟩
  rw [← hl] at hpl ⊢
  rw [whileM_eq (t := rewS c.Syns l.length l) (fun i st => ∃ (out : List GTerm) (o : Nat), st = (out, l.drop o) ∧ i ≤ o ∧ out.length ≤ o ∧ o ≤ l.length + 3 ∧ out ++ rewS c.Syns (l.length - o) (l.drop o) = rewS c.Syns l.length l) l.length
    (fun i st hi ⟨out, o, e1, e2, e3, e4, e5⟩ => ?_) (fun st ⟨out, o, e1, e2, e3, e4, e5⟩ => ?_) l.length 0 (([] : List GTerm), l) F (by omega) (by omega) ⟨[], 0, rfl, by omega, by simp, by omega, by simp⟩]
  · rfl
  · subst e1
    rcases Nat.lt_or_ge o l.length with hol | hol
    · refine .inl ?_
      have hdl : (l.drop o).length = l.length - o := List.length_drop
      have hd0 : (l.drop o)[0]? = some l[o] := by rw [List.getElem?_drop, Nat.add_zero]; exact List.getElem?_eq_getElem hol
      have h00 : getI (l.drop o) (0 : Int) = some l[o] := by rw [show (0 : Int) = ((0 : Nat) : Int) from rfl, getI_nat']; exact hd0
      obtain ⟨k, hk, hor⟩ := spec_syn F c (l.drop o) (by omega) (by omega) (fun r hr => by have := hfr r hr; omega) (by omega)
      rw [decide_eq_true (by simp only; omega), cond_true, hk, Option.bind_some, h00]
      have hr := rew_cons hp hol
      rcases hor with ⟨h1, hb⟩ | ⟨y, h1, h2, hb⟩
      · rw [hb] at hr
        rw [decide_eq_true h1, cond_true, Option.bind_some, catLok (by simp; omega), Option.bind_some]
        simp only
        rw [show (1 : Int) = ((1 : Nat) : Int) from rfl, subL_tail (by omega), Option.bind_some, List.drop_drop]
        exact ⟨_, rfl, _, _, rfl, by omega, by rw [List.length_append, List.length_singleton]; omega, by omega, by rw [List.append_assoc, ← e5, hr]; rfl⟩
      · rw [hb] at hr
        have hy := hp y (best_mem hb)
        have hy3 := hfr y (best_mem hb)
        have hyl := begins_len (best_begins hb)
        rw [decide_eq_false (by omega), cond_false, h2, Option.bind_some, Option.bind_some, catLok (by simp; omega), Option.bind_some, Option.bind_some]
        simp only
        rw [subL_tail (by omega), Option.bind_some, List.drop_drop]
        exact ⟨_, rfl, _, _, rfl, by omega, by rw [List.length_append, List.length_singleton]; omega, by omega, by rw [List.append_assoc, ← e5, hr]; rfl⟩
    · refine .inr ?_
      rw [List.drop_of_length_le hol]
      show some (Sum.inr out) = _
      rw [← e5, List.drop_of_length_le hol, rew_nil, List.append_nil]
  · subst e1
    rw [List.drop_of_length_le (by omega)]
    show some (Sum.inr out) = _
    rw [← e5, List.drop_of_length_le (by omega), rew_nil, List.append_nil]
end Go.Fk
