/-
  How words are read: the program and the reference find the same settings valid. Of no program.
-/
import Derived.Test.YtdcmmhjhffcnhaaGreatLawStem
set_option linter.unusedVariables false
namespace Go.Fk
open Go

theorem spec_has (F : Nat) (xs : List Str) (v : Str) (hl : xs.length ≤ 2000000) (hF : xs.length < F) : M.spec_l2Has F xs v = some (xs.any (· == v)) := by
  unfold M.spec_l2Has
  rw [find_while (xs := xs) (fun x => x == v) (fun _ => Sum.inr true) (e := Sum.inl ()) F hF (fun i x hx => ?_) ?_]
  · rw [← List.isSome_find?]
    cases xs.find? (· == v) <;> rfl
  · rw [decide_eq_false (by omega)]; rfl
  · have hi := (List.getElem?_eq_some_iff.1 hx).1
    rw [decide_eq_true (by omega), cond_true, getI_nat', hx, Option.bind_some, w64_succ' (by omega)]
    cases x == v <;> rfl
theorem str_beq (a b : Str) : (a == b) = (b == a) := by
  rw [Bool.eq_iff_iff]; simp only [beq_iff_eq]; exact eq_comm
theorem impl_contains (F : Nat) (xs : List Str) (v : Str) : M.slices_Contains_string F xs v = some (xs.any (· == v)) := by
  unfold M.slices_Contains_string M.slices_Index_string
  rw [idx_from (xs := xs) (fun x => x == v) (fun i x hx => ?_)]
  · rw [← idx_ge]
    cases xs.findIdx? (· == v) <;> rfl
  · rw [getI_nat', hx, Option.bind_some, str_beq v x]
    cases x == v <;> rfl
def fromOk (stops : List Str) (w : Str) : Bool := wordS w && ((stemS w == w) && !stops.any (· == w))
def synOk (stops : List Str) (r : GSyn) : Bool := ((decide ((1 : Int) ≤ r.From.length) && decide ((r.From.length : Int) ≤ 3)) && (wordS r.To && (stemS r.To == r.To))) && r.From.all (fromOk stops)
def ascS (xs : List Str) : Bool := pairS wordS strLess xs
def confS (c : GConf) : Bool := (decide ((c.Stops.length : Int) ≤ 6) && ascS c.Stops && decide ((c.Syns.length : Int) ≤ 4)) && c.Syns.all (synOk c.Stops)
/-- nothing is longer than so much -/
structure ConfFit (B : Nat) (c : GConf) : Prop where
  stops : c.Stops.length ≤ B ∧ ∀ s ∈ c.Stops, s.length ≤ B
  syns : c.Syns.length ≤ B ∧ ∀ r ∈ c.Syns, r.From.length ≤ B ∧ r.To.length ≤ B ∧ ∀ w ∈ r.From, w.length ≤ B
theorem word_le {s : Str} (h : wordS s = true) : s.length ≤ 12 := by
  simp only [wordS, Bool.and_eq_true, decide_eq_true_iff] at h
  exact h.2.2
theorem impl_asc (F : Nat) (xs : List Str) (hl : xs.length ≤ 2000000) : M.impl_wordsAscend F xs = some (ascS xs) := by
  unfold M.impl_wordsAscend ascS
  rw [pair_from (ok := wordS) (lt := strLess) (xs := xs) (fun i x hx => ?_)]
  · cases pairS wordS strLess xs <;> rfl
  · have hi := (List.getElem?_eq_some_iff.1 hx).1
    rw [getI_nat', hx, Option.bind_some, impl_word, Option.bind_some]
    cases wordS x
    · rfl
    · simp only [Bool.not_true, cond_false, Bool.true_and]
      rcases Nat.eq_zero_or_pos i with rfl | hp
      · rfl
      · rw [decide_eq_true (by omega), cond_true, w64_pred hp (by omega), getI_nat', decide_eq_false (by omega), Bool.false_or]
        have h1 : i - 1 < xs.length := by omega
        rw [List.getElem?_eq_getElem h1]
        simp only [Option.bind_some, Option.elim_some]
        exact (show ∀ b : Bool, (bif !b then some (Sum.inr false) else some (Sum.inl ())) = some (if b = true then Sum.inl () else Sum.inr false) from fun b => by cases b <;> rfl) _
theorem stem_in (F : Nat) (s : Str) (h : wordS s = true) (hF : 20 < F) : M.impl_StemOf F s = some (stemS s) := by
  rw [impl_stem F s (by have := word_le h; omega) (by have := word_le h; omega), h]; rfl
theorem impl_conf (F : Nat) (c : GConf) (h1 : c.Stops.length ≤ 2000000) (hF : 20 < F) : M.impl_ConfOk F c = some (confS c) := by
  unfold M.impl_ConfOk confS
  rw [impl_asc F _ h1]
  by_cases h6 : (c.Stops.length : Int) ≤ 6
  case neg =>
    rw [decide_eq_false h6, decide_eq_true (by omega)]; rfl
  rw [decide_eq_true h6, decide_eq_false (by omega), cond_false, Option.bind_some]
  cases ascS c.Stops
  · rfl
  simp only [Bool.not_true, cond_false, Option.bind_some, Bool.true_and]
  by_cases h4 : (c.Syns.length : Int) ≤ 4
  case neg =>
    rw [decide_eq_false h4, decide_eq_true (by omega)]; rfl
  rw [decide_eq_true h4, decide_eq_false (by omega), cond_false, Bool.true_and]
  rw [all_from (p := synOk c.Stops) (xs := c.Syns) (fun i r hr => ?_) c.Syns.length 0 (by omega), List.drop_zero]
  · cases c.Syns.all (synOk c.Stops) <;> rfl
  · rw [getI_nat', hr, Option.bind_some, withinS, Option.bind_some, synOk]
    cases decide ((1 : Int) ≤ r.From.length) && decide ((r.From.length : Int) ≤ 3)
    · rfl
    simp only [Bool.not_true, cond_false, Bool.true_and]
    rw [impl_word, Option.bind_some]
    cases hw : wordS r.To
    · rfl
    simp only [Bool.not_true, cond_false, Bool.true_and]
    rw [stem_in F _ hw hF, Option.bind_some, Option.bind_some]
    cases stemS r.To == r.To
    · rfl
    simp only [Bool.not_true, cond_false, Bool.true_and]
    rw [all_from (p := fromOk c.Stops) (xs := r.From) (fun j w hj => ?_) r.From.length 0 (by omega), List.drop_zero]
    · cases r.From.all (fromOk c.Stops) <;> rfl
    · rw [getI_nat', hj, Option.bind_some, impl_word, Option.bind_some, fromOk]
      cases hw2 : wordS w
      · rfl
      simp only [Bool.not_true, cond_false, Bool.true_and]
      rw [stem_in F _ hw2 hF, Option.bind_some]
      cases stemS w == w
      · rfl
      simp only [Bool.not_true, cond_false, Bool.true_and]
      rw [impl_contains, Option.bind_some, Option.bind_some]
      cases c.Stops.any (· == w) <;> rfl
theorem spec_word' (F : Nat) (s : Str) (B : Nat) (hs : s.length ≤ B) (hB : B ≤ 2000000) (hF : B + 20 < F) : M.spec_l1WordOk F s = some (wordS s) :=
  spec_word F s (by omega) (by have : 2000000 ≤ maxLen := by decide
                               omega)
theorem spec_asc {xs : List Str} {F B : Nat} (hl : xs.length ≤ B) (hs : ∀ s ∈ xs, s.length ≤ B) (hB : B ≤ 2000000) (hF : B + 20 < F) {f : Int → Option (Int ⊕ (Unit ⊕ Bool))}
    (h : ∀ s : Int, f s = (cond (decide (s < (xs.length : Int))) (Option.bind ((Option.bind (getI xs s) fun x42 => (Option.bind (M.spec_l1WordOk F x42) fun r52 => (cond (!r52) (some true) (cond (decide ((0 : Int) < s)) (Option.bind (getI xs s) fun x67 => (Option.bind (getI xs (w64 (s - (1 : Int)))) fun x77 => (some (strLess x67 x77 || x67 == x77)))) (some false))))) : Option Bool) fun o35 => (cond o35 (some (.inr (.inr false))) (some (.inl (w64 (s + (1 : Int))))))) (some (.inr (.inl ()))))) :
    whileM f F (0 : Int) = some (if ascS xs then .inl () else .inr false) := by
  refine pair_while (ok := wordS) (lt := strLess) (xs := xs) (fun i x hx => ?_) ?_ F (by omega)
  · have hi := (List.getElem?_eq_some_iff.1 hx).1
    rw [h, decide_eq_true (by omega), cond_true, getI_nat', hx, Option.bind_some, spec_word' F x B (hs x (List.mem_of_getElem? hx)) hB hF, Option.bind_some]
    cases wordS x
    · rfl
    · simp only [Bool.not_true, cond_false, Bool.true_and]
      rw [w64_succ' (by omega)]
      rcases Nat.eq_zero_or_pos i with rfl | hp
      · rfl
      · rw [decide_eq_true (by omega), cond_true, Option.bind_some, w64_pred hp (by omega), getI_nat', decide_eq_false (by omega), Bool.false_or]
        have h1 : i - 1 < xs.length := by omega
        rw [List.getElem?_eq_getElem h1]
        simp only [Option.bind_some, Option.elim_some]
        have := lessTotal xs[i - 1] x
        rw [← this]
        exact (show ∀ b : Bool, (bif !b then some (Sum.inr (Sum.inr false)) else some (Sum.inl ((i + 1 : Nat) : Int))) = some (if b = true then Sum.inl ((i + 1 : Nat) : Int) else Sum.inr (Sum.inr false)) from fun b => by cases b <;> rfl) _
  · rw [h, decide_eq_false (by omega)]; rfl
theorem spec_conf (F B : Nat) (c : GConf) (hc : ConfFit B c) (hB : B ≤ 2000000) (hF : B + 30 < F) : M.spec_l2Ok F c = some (confS c) := by
  obtain ⟨⟨h1, h2⟩, h3, h4⟩ := hc
  unfold M.spec_l2Ok confS
  rw [spec_asc (xs := c.Stops) (B := B) h1 h2 hB (by omega) (fun _ => rfl), Option.bind_some]
  cases ascS c.Stops
  · simp only [Bool.and_false, Bool.false_and]; rfl
  rw [if_pos rfl]
  simp only [Bool.and_true]
  show Option.bind _ _ = _
  show Option.bind _ _ = _
  rw [all_while0 (synOk c.Stops) (xs := c.Syns) F (by omega) (fun i r hr => ?_) ?_, Option.bind_some]
  · cases c.Syns.all (synOk c.Stops)
    · simp only [Bool.and_false]; rfl
    · rw [if_pos rfl]
      simp only [Bool.and_true]
      show cond _ _ _ = _
      cases decide ((c.Stops.length : Int) ≤ 6) <;> rfl
  · rw [decide_eq_false (by omega)]; rfl
  · have hi := (List.getElem?_eq_some_iff.1 hr).1
    obtain ⟨g1, g2, g3⟩ := h4 r (List.mem_of_getElem? hr)
    rw [decide_eq_true (by omega), cond_true, getI_nat', hr, Option.bind_some]
    rw [all_while0 (fromOk c.Stops) (xs := r.From) F (by omega) (fun j w hj => ?_) ?_, Option.bind_some, synOk]
    · cases r.From.all (fromOk c.Stops)
      · simp only [Bool.and_false]; rfl
      · rw [if_pos rfl]
        simp only [Bool.and_true]
        show Option.bind _ _ = _
        rw [inS, Option.bind_some, w64_succ' (by omega)]
        cases decide ((1 : Int) ≤ r.From.length) && decide ((r.From.length : Int) ≤ 3)
        · rfl
        simp only [Bool.not_true, cond_false, Bool.true_and]
        rw [spec_word' F r.To B g2 hB (by omega), Option.bind_some]
        cases hw : wordS r.To
        · rfl
        simp only [Bool.not_true, cond_false, Bool.true_and]
        rw [spec_stem F r.To (by omega) (by omega), Option.bind_some, Option.bind_some]
        cases stemS r.To == r.To <;> rfl
    · rw [decide_eq_false (by omega)]; rfl
    · have hj2 := (List.getElem?_eq_some_iff.1 hj).1
      have hwl := g3 w (List.mem_of_getElem? hj)
      rw [decide_eq_true (by omega), cond_true, getI_nat', hj, Option.bind_some, spec_word' F w B hwl hB (by omega), Option.bind_some, fromOk, w64_succ' (by omega)]
      cases hw2 : wordS w
      · rfl
      simp only [Bool.not_true, cond_false, Bool.true_and]
      rw [Option.bind_some, spec_stem F w (by omega) (by omega), Option.bind_some, Option.bind_some]
      cases stemS w == w
      · rfl
      simp only [Bool.not_true, cond_false, Bool.true_and]
      rw [Option.bind_some, spec_has F c.Stops w (by omega) (by omega), Option.bind_some, Option.bind_some]
      cases c.Stops.any (· == w) <;> rfl
end Go.Fk
