/-
  Order of texts, insertion, sorting by a key. Of no program.
-/
import Derived.Test.YtoeajphlomankaaLawBase
set_option linter.unusedVariables false
namespace Go.Fk
open Go

/-- a loop that folds, with what holds of the state behind each step -/
theorem fold_while_at {α σ τ τ' : Type} {xs : List α} {e : σ → τ} {g : σ → α → σ} {I : Nat → σ → Prop} {mk : σ → Int → τ'} {f : τ' → Option (τ' ⊕ τ)} (h : ∀ (i : Nat) x s, xs[i]? = some x → I i s → f (mk s (i : Int)) = some (.inl (mk (g s x) ((i + 1 : Nat) : Int))) ∧ I (i + 1) (g s x))
    (h0 : ∀ s, I xs.length s → f (mk s (xs.length : Int)) = some (.inr (e s))) : ∀ k i s F, i + k = xs.length → k < F → I i s → whileM f F (mk s (i : Int)) = some (e ((xs.drop i).foldl g s)) ∧ I xs.length ((xs.drop i).foldl g s)
  | 0, i, s, F, he, hF, hI => by
    obtain ⟨F, rfl⟩ : ∃ G, F = G + 1 := ⟨F - 1, by omega⟩
    obtain rfl : i = xs.length := by omega
    rw [whileM, h0 s hI, List.drop_of_length_le (Nat.le_refl _)]
    exact ⟨rfl, hI⟩
  | k + 1, i, s, F, he, hF, hI => by
    obtain ⟨F, rfl⟩ : ∃ G, F = G + 1 := ⟨F - 1, by omega⟩
    have hi : i < xs.length := by omega
    obtain ⟨h1, h2⟩ := h i xs[i] s (List.getElem?_eq_getElem hi) hI
    rw [List.drop_eq_getElem_cons hi, List.foldl_cons, whileM, h1, Option.bind_some]
    exact fold_while_at h h0 k (i + 1) _ F (by omega) (by omega) h2
theorem fold_while {α σ τ τ' : Type} {xs : List α} (g : σ → α → σ) (I : Nat → σ → Prop) (e : σ → τ) (mk : σ → Int → τ') {f : τ' → Option (τ' ⊕ τ)} {s0 : τ'} (s : σ) (hs : s0 = mk s 0) (F : Nat) (hF : xs.length < F) (hI : I 0 s) (h : ∀ (i : Nat) x s, xs[i]? = some x → I i s → f (mk s (i : Int)) = some (.inl (mk (g s x) ((i + 1 : Nat) : Int))) ∧ I (i + 1) (g s x))
    (h0 : ∀ s, I xs.length s → f (mk s (xs.length : Int)) = some (.inr (e s))) : whileM f F s0 = some (e (xs.foldl g s)) ∧ I xs.length (xs.foldl g s) := by
  have := fold_while_at h h0 xs.length 0 s F (by omega) hF hI
  rw [List.drop_zero] at this
  rw [hs]; exact this
/-- lists that are sorted by the same order and have the same members -/
theorem sorted_same {β : Type} {lt : β → β → Bool} (irr : ∀ a, lt a a = false) (tr : ∀ {a b c}, lt a b = true → lt b c = true → lt a c = true) : ∀ {a b : List β}, (a.Pairwise fun x y => lt x y = true) → (b.Pairwise fun x y => lt x y = true) → (∀ x, x ∈ a ↔ x ∈ b) → a = b
  | [], [], _, _, _ => rfl
  | [], y :: b, _, _, h => by have := (h y).2 (by simp); cases this
  | x :: a, [], _, _, h => by have := (h x).1 (by simp); cases this
  | x :: a, y :: b, ha, hb, h => by
    have hac := List.pairwise_cons.1 ha
    have hbc := List.pairwise_cons.1 hb
    have hxy : x = y := by
      rcases List.mem_cons.1 ((h x).1 (by simp)) with e | hx
      · exact e
      · rcases List.mem_cons.1 ((h y).2 (by simp)) with e | hy
        · exact e.symm
        · have := tr (hbc.1 x hx) (hac.1 y hy)
          rw [irr] at this; cases this
    subst hxy
    congr 1
    refine sorted_same irr tr hac.2 hbc.2 fun z => ?_
    constructor
    · intro hz
      rcases List.mem_cons.1 ((h z).1 (by simp [hz])) with e | hz'
      · subst e
        have := hac.1 z hz
        rw [irr] at this; cases this
      · exact hz'
    · intro hz
      rcases List.mem_cons.1 ((h z).2 (by simp [hz])) with e | hz'
      · subst e
        have := hbc.1 z hz
        rw [irr] at this; cases this
      · exact hz'
theorem sortO_is {β : Type} {c : β → β → Option Int} {lt : β → β → Bool} (hlt : ∀ a b, ltO c a b = lt a b) (hsm : ∀ a b, (c a b).isSome = true) (irr : ∀ a, lt a a = false) (tr : ∀ {a b c}, lt a b = true → lt b c = true → lt a c = true) (ng : ∀ {a b c}, lt a c = true → lt a b = true ∨ lt b c = true)
    {l t : List β} (hd : l.Pairwise fun a b => lt a b = true ∨ lt b a = true) (ht : t.Pairwise fun x y => lt x y = true) (hm : ∀ x, x ∈ t ↔ x ∈ l) (hl : l.length ≤ 1000000) : sortO c l = some t := by
  have hok : sortOk c l = true := by
    unfold sortOk
    simp only [hlt, Bool.and_eq_true, decide_eq_true_iff, List.all_eq_true]
    refine ⟨⟨⟨⟨⟨by omega, fun x _ y _ => hsm x y⟩, fun x _ => by rw [irr]; rfl⟩, fun x _ y _ z _ => ?_⟩, fun x _ y _ z _ => ?_⟩, hd⟩
    · cases h1 : lt x y with
      | false => simp
      | true =>
        cases h2 : lt y z with
        | false => simp
        | true => rw [tr h1 h2]; rfl
    · cases h1 : lt x y with
      | true => simp
      | false =>
        cases h2 : lt y z with
        | true => simp
        | false =>
          have : lt x z = false := by
            rw [Bool.eq_false_iff]; intro h3
            rcases ng (b := y) h3 with h | h
            · rw [h1] at h; cases h
            · rw [h2] at h; cases h
          rw [this]; rfl
  unfold sortO
  rw [if_pos hok]
  congr 1
  have hperm := List.mergeSort_perm l (fun x y => !ltO c y x)
  refine sorted_same irr tr ?_ ht (fun x => by rw [hperm.mem_iff, hm])
  have hsorted := List.pairwise_mergeSort (le := fun x y => !ltO c y x) (fun a b c' h1 h2 => by
      simp only [hlt, Bool.not_eq_true'] at h1 h2 ⊢
      rw [Bool.eq_false_iff]; intro h3
      rcases ng (b := b) h3 with h | h
      · rw [h2] at h; cases h
      · rw [h1] at h; cases h) (fun a b => by
      simp only [hlt]
      cases h : lt b a with
      | false => rfl
      | true =>
        have : lt a b = false := by
          rw [Bool.eq_false_iff]; intro h2
          have := tr h h2
          rw [irr] at this; cases this
        rw [this]; rfl) l
  have hd' : (l.mergeSort fun x y => !ltO c y x).Pairwise fun a b => lt a b = true ∨ lt b a = true := hperm.symm.pairwise hd fun h => h.symm
  refine (hsorted.and hd').imp fun {a b} ⟨h1, h2⟩ => ?_
  simp only [hlt, Bool.not_eq_true'] at h1
  rcases h2 with h2 | h2
  · exact h2
  · rw [h1] at h2; cases h2
end Go.Fk
