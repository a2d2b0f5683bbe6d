/-
  The words of a text: the program and the reference find the same. Of no program.
-/
import Derived.Test.YtdcmmhjhffcnhaaGreatLawDocs
namespace Go.Fk
open Go

def lowB (b : UInt8) : UInt8 := if (65 : UInt8) ≤ b ∧ b ≤ (90 : UInt8) then b + 32 else b
def isW (b : UInt8) : Bool := wordB (lowB b)
theorem impl_low (F : Nat) (b : UInt8) : M.impl_lower F b = some (lowB b) := by
  unfold M.impl_lower lowB
  by_cases h1 : (65 : UInt8) ≤ b <;> by_cases h2 : b ≤ (90 : UInt8) <;> simp [h1, h2]
  exact byte_all (Q := fun b => b + 97 - 65 = b + 32) (by decide +kernel) b
theorem fold_isW (b : UInt8) : (!(foldB b == 0)) = isW b := byte_all (Q := fun b => (!(foldB b == 0)) = isW b) (by decide +kernel) b
theorem fold_low (b : UInt8) : isW b = true → foldB b = lowB b := byte_all (Q := fun b => isW b = true → foldB b = lowB b) (by decide +kernel) b
/-- the words from a place on; so many are ahead -/
def wordsA (s : Str) (o k : Nat) : List GWord :=
  match s with
  | [] => []
  | b :: r =>
    if isW b then ⟨(((b :: r).takeWhile isW).map lowB).take 12, (k : Int), (o : Int), ((o + ((b :: r).takeWhile isW).length : Nat) : Int)⟩ :: wordsA ((b :: r).drop ((b :: r).takeWhile isW).length) (o + ((b :: r).takeWhile isW).length) (k + 1)
    else wordsA r (o + 1) k
termination_by s.length
decreasing_by
  · rename_i h
    simp only [List.length_drop, List.takeWhile_cons, h, if_true, List.length_cons]; omega
  · simp
def wordsS (s : Str) : List GWord := wordsA s 0 0
theorem wordsA_nil (o k : Nat) : wordsA [] o k = [] := by rw [wordsA]
theorem wordsA_skip {s : Str} {o k p : Nat} {b : UInt8} (h : s[p]? = some b) (hb : isW b = false) : wordsA (s.drop p) o k = wordsA (s.drop (p + 1)) (o + 1) k := by
  have hp := (List.getElem?_eq_some_iff.1 h)
  obtain ⟨hlt, rfl⟩ := hp
  rw [List.drop_eq_getElem_cons hlt, wordsA, if_neg (by rw [hb]; simp)]
theorem wordsA_word {s : Str} {o k p : Nat} {b : UInt8} (h : s[p]? = some b) (hb : isW b = true) : wordsA (s.drop p) o k =
    ⟨(((s.drop p).takeWhile isW).map lowB).take 12, (k : Int), (o : Int), ((o + ((s.drop p).takeWhile isW).length : Nat) : Int)⟩ :: wordsA (s.drop (p + ((s.drop p).takeWhile isW).length)) (o + ((s.drop p).takeWhile isW).length) (k + 1) := by
  have hp := (List.getElem?_eq_some_iff.1 h)
  obtain ⟨hlt, rfl⟩ := hp
  rw [← List.drop_drop]
  generalize hd : s.drop p = t
  rw [List.drop_eq_getElem_cons hlt] at hd
  subst hd
  rw [wordsA, if_pos hb]
/-- how long the run of a word's bytes is -/
theorem run_len {s : Str} {p : Nat} : p + ((s.drop p).takeWhile isW).length ≤ s.length ∨ s.length < p := by
  have h1 := List.takeWhile_prefix isW (l := s.drop p)
  have h2 := h1.length_le
  rw [List.length_drop] at h2
  omega
theorem run_at {s : Str} {p j : Nat} (hj : j < ((s.drop p).takeWhile isW).length) : ∃ b, s[p + j]? = some b ∧ isW b = true ∧ ((s.drop p).takeWhile isW)[j]? = some b := by
  have h1 : ((s.drop p).takeWhile isW)[j]? = some ((s.drop p).takeWhile isW)[j] := List.getElem?_eq_getElem hj
  refine ⟨_, ?_, ?_, h1⟩
  · have h2 := List.takeWhile_prefix isW (l := s.drop p)
    have h3 := h2.getElem hj
    rw [← List.getElem?_drop, List.getElem?_eq_getElem (by have := h2.length_le; omega), ← h3]
  · exact List.all_eq_true.1 List.all_takeWhile _ (List.getElem_mem hj)
theorem run_end {s : Str} {p : Nat} : s[p + ((s.drop p).takeWhile isW).length]? = none ∨ ∃ b, s[p + ((s.drop p).takeWhile isW).length]? = some b ∧ isW b = false := by
  cases e : s[p + ((s.drop p).takeWhile isW).length]? with
  | none => exact .inl rfl
  | some b =>
    refine .inr ⟨b, rfl, ?_⟩
    rw [← List.getElem?_drop] at e
    generalize s.drop p = t at e
    induction t with
    | nil => simp at e
    | cons x r ih =>
      by_cases hx : isW x = true
      · simp only [List.takeWhile_cons, hx, if_true, List.length_cons, List.getElem?_cons_succ] at e
        exact ih e
      · simp only [List.takeWhile_cons, hx] at e
        simp at e
        subst e
        simpa using hx
theorem take_snoc {xs : List UInt8} {n : Nat} {x : UInt8} (h : xs.length < n) : xs.take n ++ [x] = (xs ++ [x]).take n := by
  rw [List.take_of_length_le (by omega), List.take_of_length_le (by simp; omega)]
theorem take_full {xs : List UInt8} {n : Nat} {x : UInt8} (h : n ≤ xs.length) : (xs ++ [x]).take n = xs.take n := by
  rw [List.take_append_of_le_length h]
theorem runs_take {f : UInt8 → UInt8} {R : List UInt8} {j : Nat} {b : UInt8} (h : R[j]? = some b) : (R.take (j + 1)).map f = (R.take j).map f ++ [f b] := by
  obtain ⟨hlt, rfl⟩ := List.getElem?_eq_some_iff.1 h
  rw [List.take_succ_eq_append_getElem hlt, List.map_append]; rfl
theorem whileM_eq {σ τ : Type} {f : σ → Option (σ ⊕ τ)} {t : τ} (Inv : Nat → σ → Prop) (n : Nat)
    (step : ∀ i s, i < n → Inv i s → (∃ s', f s = some (.inl s') ∧ Inv (i + 1) s') ∨ f s = some (.inr t))
    (fin : ∀ s, Inv n s → f s = some (.inr t)) (k i : Nat) (s : σ) (F : Nat) (he : i + k = n) (hF : k < F) (hi : Inv i s) : whileM f F s = some t := by
  obtain ⟨t', h1, rfl⟩ := whileM_run (Post := fun t' => t' = t) Inv n (fun i s hi hI => (step i s hi hI).imp id fun h => ⟨t, h, rfl⟩) (fun s hI => ⟨t, fin s hI, rfl⟩) k i s F he hF hi
  exact h1
/-- the program's inner loop -/
theorem impl_run (F : Nat) (s : Str) (p : Nat) (hp : p ≤ s.length) (hF : s.length + 1 < F)
    {f : Int × List UInt8 → Option ((Int × List UInt8) ⊕ (Int × List UInt8))}
    (h1 : ∀ (q : Nat) (t : List UInt8) b, s[q]? = some b → isW b = true → t.length < 12 → f ((q : Int), t) = some (.inl (((q + 1 : Nat) : Int), t ++ [lowB b])))
    (h1' : ∀ (q : Nat) (t : List UInt8) b, s[q]? = some b → isW b = true → ¬ t.length < 12 → f ((q : Int), t) = some (.inl (((q + 1 : Nat) : Int), t)))
    (h2 : ∀ (q : Nat) (t : List UInt8), q ≤ s.length → (s[q]? = none ∨ ∃ b, s[q]? = some b ∧ isW b = false) → f ((q : Int), t) = some (.inr ((q : Int), t))) :
    whileM f F ((p : Int), []) = some (((p + ((s.drop p).takeWhile isW).length : Nat) : Int), (((s.drop p).takeWhile isW).map lowB).take 12) := by
  have hrl := run_len (s := s) (p := p)
  obtain ⟨t, ht, e⟩ := whileM_run (f := f) (Post := fun t => t = (((p + ((s.drop p).takeWhile isW).length : Nat) : Int), (((s.drop p).takeWhile isW).map lowB).take 12))
    (fun j st => st = (((p + j : Nat) : Int), ((((s.drop p).takeWhile isW).take j).map lowB).take 12)) ((s.drop p).takeWhile isW).length
    (fun j st hj hi => by
      subst hi
      obtain ⟨b, hb, hw, hr⟩ := run_at hj
      refine .inl ⟨_, ?_, rfl⟩
      by_cases hl : (((((s.drop p).takeWhile isW).take j).map lowB).take 12).length < 12
      · rw [h1 _ _ b hb hw hl]
        have : ((((s.drop p).takeWhile isW).take j).map lowB).length < 12 := by rw [List.length_take] at hl; omega
        rw [take_snoc this, ← runs_take hr]; rfl
      · rw [h1' _ _ b hb hw hl]
        have : 12 ≤ ((((s.drop p).takeWhile isW).take j).map lowB).length := by rw [List.length_take] at hl; omega
        rw [runs_take (f := lowB) hr, take_full this]; rfl)
    (fun st hi => by
      subst hi
      refine ⟨_, h2 _ _ (by omega) run_end, ?_⟩
      rw [List.take_of_length_le (Nat.le_refl _)]) ((s.drop p).takeWhile isW).length 0 ((p : Int), []) F (by omega) (by omega) (by simp)
  rw [ht, e]
/-- the reference's inner loop -/
theorem spec_run (F : Nat) (s : Str) (p : Nat) (hp : p ≤ s.length) (hs : s.length ≤ 2000000) (hF : s.length + 1 < F)
    {f : Int × List UInt8 → Option ((Int × List UInt8) ⊕ (Int × List UInt8))}
    (h1 : ∀ (q : Nat) (t : List UInt8) b, s[q]? = some b → isW b = true → t.length ≤ 2000000 → f ((q : Int), t) = some (.inl (((q + 1 : Nat) : Int), t ++ [lowB b])))
    (h2 : ∀ (q : Nat) (t : List UInt8), q ≤ s.length → (s[q]? = none ∨ ∃ b, s[q]? = some b ∧ isW b = false) → f ((q : Int), t) = some (.inr ((q : Int), t))) :
    whileM f F ((p : Int), []) = some (((p + ((s.drop p).takeWhile isW).length : Nat) : Int), ((s.drop p).takeWhile isW).map lowB) := by
  have hrl := run_len (s := s) (p := p)
  obtain ⟨t, ht, e⟩ := whileM_run (f := f) (Post := fun t => t = (((p + ((s.drop p).takeWhile isW).length : Nat) : Int), ((s.drop p).takeWhile isW).map lowB))
    (fun j st => st = (((p + j : Nat) : Int), (((s.drop p).takeWhile isW).take j).map lowB)) ((s.drop p).takeWhile isW).length
    (fun j st hj hi => by
      subst hi
      obtain ⟨b, hb, hw, hr⟩ := run_at hj
      refine .inl ⟨_, ?_, rfl⟩
      rw [h1 _ _ b hb hw (by rw [List.length_map, List.length_take]; omega), ← runs_take hr]; rfl)
    (fun st hi => by
      subst hi
      refine ⟨_, h2 _ _ (by omega) run_end, ?_⟩
      rw [List.take_of_length_le (Nat.le_refl _)]) ((s.drop p).takeWhile isW).length 0 ((p : Int), []) F (by omega) (by omega) (by simp)
  rw [ht, e]
theorem impl_words (F : Nat) (s : Str) (hs : s.length ≤ 2000000) (hF : s.length + 1 < F) : M.impl_WordsOf F s = some (if textS s then wordsS s else []) := by
  unfold M.impl_WordsOf
  rw [impl_text, Option.bind_some]
  cases ht : textS s
  · rfl
  simp only [Bool.not_true, cond_false, if_true]
  have hg : ∀ (q : Nat) b, s[q]? = some b → getI s (q : Int) = some b := fun q b h => by rw [getI_nat']; exact h
  have hlt : ∀ (q : Nat) b, s[q]? = some b → decide ((q : Int) < (s.length : Int)) = true := fun q b h => decide_eq_true (by have := (List.getElem?_eq_some_iff.1 h).1; omega)
  rw [whileM_eq (t := wordsS s) (fun i st => ∃ (out : List GWord) (o : Nat), st = (out, (o : Int)) ∧ i ≤ o ∧ o ≤ s.length ∧ out.length ≤ o ∧ out ++ wordsA (s.drop o) o out.length = wordsS s) s.length
    (fun i st hi ⟨out, o, e1, e2, e3, e4, e5⟩ => ?_) (fun st ⟨out, o, e1, e2, e3, e4, e5⟩ => ?_) s.length 0 (([] : List GWord), (0 : Int)) F (by omega) (by omega) ⟨[], 0, rfl, by omega, by omega, by simp, by simp [wordsS]⟩]
  · rfl
  · subst e1
    rcases Nat.lt_or_ge o s.length with hol | hol
    · have hb : s[o]? = some s[o] := List.getElem?_eq_getElem hol
      rw [hlt o _ hb, cond_true, hg o _ hb, Option.bind_some, impl_low, Option.bind_some, impl_byte, Option.bind_some]
      cases hw : isW s[o]
      · rw [show wordB (lowB s[o]) = false from hw]
        refine .inl ⟨(out, ((o + 1 : Nat) : Int)), ?_, out, o + 1, rfl, by omega, by omega, by omega, ?_⟩
        · rw [w64_succ' (by omega)]; rfl
        · rw [← e5, wordsA_skip hb hw]
      · rw [show wordB (lowB s[o]) = true from hw]
        have hrl := run_len (s := s) (p := o)
        have hpos : 0 < ((s.drop o).takeWhile isW).length := by rw [List.drop_eq_getElem_cons hol, List.takeWhile_cons, if_pos hw]; simp
        refine .inl ⟨(out ++ [⟨(((s.drop o).takeWhile isW).map lowB).take 12, (out.length : Int), (o : Int), ((o + ((s.drop o).takeWhile isW).length : Nat) : Int)⟩], ((o + ((s.drop o).takeWhile isW).length : Nat) : Int)), ?_, _, _, rfl, by omega, by omega, by rw [List.length_append, List.length_singleton]; omega, ?_⟩
        · simp only [Bool.not_true, cond_false]
          rw [impl_run F s o e3 hF ?_ ?_ ?_, Option.bind_some, Option.bind_some, catLok (by simp; omega)]
          · rfl
          · intro q t b hb hw hl
            rw [hlt q b hb, cond_true, hg q b hb, Option.bind_some, impl_low, Option.bind_some, impl_byte, Option.bind_some, Option.bind_some, show wordB (lowB b) = true from hw, cond_true, decide_eq_true (show (t.length : Int) < 12 by omega), cond_true, Option.bind_some, impl_low, Option.bind_some, catLok (by simp; omega), Option.bind_some, w64_succ' (by have := (List.getElem?_eq_some_iff.1 hb).1; omega)]
          · intro q t b hb hw hl
            rw [hlt q b hb, cond_true, hg q b hb, Option.bind_some, impl_low, Option.bind_some, impl_byte, Option.bind_some, Option.bind_some, show wordB (lowB b) = true from hw, cond_true, decide_eq_false (show ¬ (t.length : Int) < 12 by omega), cond_false, w64_succ' (by have := (List.getElem?_eq_some_iff.1 hb).1; omega)]
          · intro q t hq hor
            rcases hor with hn | ⟨b, hb, hw⟩
            · rw [decide_eq_false (show ¬ (q : Int) < s.length by have := List.getElem?_eq_none_iff.1 hn; omega)]; rfl
            · rw [hlt q b hb, cond_true, hg q b hb, Option.bind_some, impl_low, Option.bind_some, impl_byte, Option.bind_some, Option.bind_some, show wordB (lowB b) = false from hw]; rfl
        · rw [List.append_assoc, ← e5, wordsA_word hb hw, List.length_append, List.length_singleton]; rfl
    · refine .inr ?_
      rw [decide_eq_false (by omega)]
      show some (Sum.inr out) = _
      rw [← e5, List.drop_of_length_le hol, wordsA_nil, List.append_nil]
  · subst e1
    have : o = s.length := by omega
    subst this
    rw [decide_eq_false (by omega)]
    show some (Sum.inr out) = _
    rw [← e5, List.drop_of_length_le (Nat.le_refl _), wordsA_nil, List.append_nil]
theorem spec_words (F : Nat) (s : Str) (hs : s.length ≤ 2000000) (hF : s.length + 2 < F) : M.spec_l1Words F s = some (wordsS s) := by
  unfold M.spec_l1Words
  have hg : ∀ (q : Nat) b, s[q]? = some b → getI s (q : Int) = some b := fun q b h => by rw [getI_nat']; exact h
  have hlt : ∀ (q : Nat) b, s[q]? = some b → decide ((q : Int) < (s.length : Int)) = true := fun q b h => decide_eq_true (by have := (List.getElem?_eq_some_iff.1 h).1; omega)
  have hrun : ∀ (o : Nat), o ≤ s.length → _ := fun o ho => spec_run F s o ho hs (by omega) (f := fun (s55 : Int × (List UInt8)) => (Option.bind ((cond (decide (s55.1 < (s.length : Int))) (Option.bind (getI s s55.1) fun x81 => (Option.bind (M.spec_l1Fold F x81) fun r84 => (some (!(r84 == (0 : UInt8)))))) (some false)) : Option Bool) fun o72 => (cond o72 (Option.bind (getI s s55.1) fun x94 => (Option.bind (M.spec_l1Fold F x94) fun r97 => (Option.bind (catL 1 s55.2 ([r97] : List UInt8)) fun x112 => (some (.inl ((w64 (s55.1 + (1 : Int))), x112)))))) (some (.inr (s55.1, s55.2))))))
    (fun q t b hb hw hl => by
      show Option.bind _ _ = _
      rw [hlt q b hb, cond_true, hg q b hb, Option.bind_some, spec_fold, Option.bind_some, Option.bind_some, show (!(foldB b == 0)) = true by rw [fold_isW]; exact hw, cond_true, Option.bind_some, spec_fold, Option.bind_some, catLok (by simp; omega), Option.bind_some, w64_succ' (by have := (List.getElem?_eq_some_iff.1 hb).1; omega), fold_low b hw])
    (fun q t hq hor => by
      show Option.bind _ _ = _
      rcases hor with hn | ⟨b, hb, hw⟩
      · rw [decide_eq_false (show ¬ (q : Int) < s.length by have := List.getElem?_eq_none_iff.1 hn; omega)]; rfl
      · rw [hlt q b hb, cond_true, hg q b hb, Option.bind_some, spec_fold, Option.bind_some, Option.bind_some, show (!(foldB b == 0)) = false by rw [fold_isW]; exact hw]; rfl)
  rw [whileM_eq (t := wordsS s) (fun i st => ∃ (out : List GWord) (o : Nat), st = (out, (o : Int)) ∧ i ≤ o ∧ o ≤ s.length + 1 ∧ out.length ≤ o ∧ out ++ wordsA (s.drop o) o out.length = wordsS s) s.length
    (fun i st hi ⟨out, o, e1, e2, e3, e4, e5⟩ => ?_) (fun st ⟨out, o, e1, e2, e3, e4, e5⟩ => ?_) s.length 0 (([] : List GWord), (0 : Int)) F (by omega) (by omega) ⟨[], 0, rfl, by omega, by omega, by simp, by simp [wordsS]⟩]
  · rfl
  · subst e1
    rcases Nat.lt_or_ge o s.length with hol | hol
    · have hb : s[o]? = some s[o] := List.getElem?_eq_getElem hol
      have hrl := run_len (s := s) (p := o)
      rw [hlt o _ hb, cond_true, hrun o (by omega), Option.bind_some, Option.bind_some]
      simp only
      have hcut : (Option.bind ((cond (decide ((12 : Int) < ((((s.drop o).takeWhile isW).map lowB).length : Int))) (Option.bind (subL (((s.drop o).takeWhile isW).map lowB) 0 (12 : Int)) fun x139 => (some x139)) (some (((s.drop o).takeWhile isW).map lowB))) : Option (List UInt8)) fun x => some x) = some ((((s.drop o).takeWhile isW).map lowB).take 12) := by
        by_cases hl : 12 < (((s.drop o).takeWhile isW).map lowB).length
        · rw [decide_eq_true (by omega), cond_true, subL, if_pos (by omega)]; rfl
        · rw [decide_eq_false (by omega), cond_false, List.take_of_length_le (by omega)]; rfl
      rw [show ∀ o : Option (List UInt8), (Option.bind o fun x => some x) = o from fun o => by cases o <;> rfl] at hcut
      rw [hcut, Option.bind_some]
      cases hw : isW s[o]
      · have hnil : (s.drop o).takeWhile isW = [] := by rw [List.drop_eq_getElem_cons hol, List.takeWhile_cons, hw]; simp
        rw [hnil]
        refine .inl ⟨(out, ((o + 1 : Nat) : Int)), ?_, out, o + 1, rfl, by omega, by omega, by omega, ?_⟩
        · simp only [List.map_nil, List.take_nil, List.length_nil, Nat.add_zero]
          rw [w64_succ' (by omega)]; rfl
        · rw [← e5, wordsA_skip hb hw]
      · have hpos : 0 < ((s.drop o).takeWhile isW).length := by rw [List.drop_eq_getElem_cons hol, List.takeWhile_cons, if_pos hw]; simp
        rw [decide_eq_true (by rw [List.length_take, List.length_map]; omega), cond_true, catLok (by simp; omega), Option.bind_some, w64_succ' (by omega)]
        refine .inl ⟨_, rfl, _, _, rfl, by omega, by omega, by rw [List.length_append, List.length_singleton]; omega, ?_⟩
        have e9 : wordsA (s.drop (o + ((s.drop o).takeWhile isW).length + 1)) (o + ((s.drop o).takeWhile isW).length + 1) (out.length + 1) = wordsA (s.drop (o + ((s.drop o).takeWhile isW).length)) (o + ((s.drop o).takeWhile isW).length) (out.length + 1) := by
          rcases run_end (s := s) (p := o) with hn | ⟨b, hb2, hw2⟩
          · have := List.getElem?_eq_none_iff.1 hn
            rw [List.drop_of_length_le (i := o + ((s.drop o).takeWhile isW).length + 1) (by omega), List.drop_of_length_le (i := o + ((s.drop o).takeWhile isW).length) (by omega), wordsA_nil, wordsA_nil]
          · exact (wordsA_skip hb2 hw2).symm
        rw [List.append_assoc, ← e5, wordsA_word hb hw, List.length_append, List.length_singleton, e9]; rfl
    · refine .inr ?_
      rw [decide_eq_false (by omega)]
      show some (Sum.inr out) = _
      rw [← e5, List.drop_of_length_le hol, wordsA_nil, List.append_nil]
  · subst e1
    rw [decide_eq_false (by omega)]
    show some (Sum.inr out) = _
    rw [← e5, List.drop_of_length_le (by omega), wordsA_nil, List.append_nil]
end Go.Fk
