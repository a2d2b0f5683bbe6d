import Derived.Test.YtmkhlppjphodfaaGreatDoorCoreK
import Derived.Test.YtmkhlppjphodfaaGreatDoorModel
/-
  How the models' loops run: a step's law gives the loop's law. Of no program.
-/
namespace Go.Fk
open Go

theorem whileM_run {σ τ : Type} {f : σ → Option (σ ⊕ τ)} {Post : τ → Prop} (Inv : Nat → σ → Prop) (n : Nat)
    (step : ∀ i s, i < n → Inv i s → (∃ s', f s = some (.inl s') ∧ Inv (i + 1) s') ∨ (∃ t, f s = some (.inr t) ∧ Post t))
    (fin : ∀ s, Inv n s → ∃ t, f s = some (.inr t) ∧ Post t) : ∀ (k i : Nat) (s : σ) (F : Nat), i + k = n → k < F → Inv i s → ∃ t, whileM f F s = some t ∧ Post t
  | 0, i, s, F, e, hF, hi => by
    obtain ⟨F, rfl⟩ : ∃ G, F = G + 1 := ⟨F - 1, by omega⟩
    obtain ⟨t, h1, h2⟩ := fin s (by rw [← e]; exact hi)
    exact ⟨t, by rw [whileM, h1]; rfl, h2⟩
  | k + 1, i, s, F, e, hF, hi => by
    obtain ⟨F, rfl⟩ : ∃ G, F = G + 1 := ⟨F - 1, by omega⟩
    rcases step i s (by omega) hi with ⟨s', h1, h2⟩ | ⟨t, h1, h2⟩
    · obtain ⟨t, h3, h4⟩ := whileM_run Inv n step fin k (i + 1) s' F (by omega) (by omega) h2
      exact ⟨t, by rw [whileM, h1]; exact h3, h4⟩
    · exact ⟨t, by rw [whileM, h1]; rfl, h2⟩
theorem getI_at {α : Type} {xs : List α} {i : Nat} (h : i < xs.length) : getI xs (i : Int) = some xs[i] := by
  unfold getI
  rw [if_pos (by omega)]
  exact List.getElem?_eq_getElem (by omega)
theorem w64_pred {i : Nat} (h0 : 0 < i) (h : i < 9000000000000000000) : w64 ((i : Int) - 1) = ((i - 1 : Nat) : Int) := by rw [w64_of ⟨by omega, by omega⟩]; omega
/-- a loop that finds no fault -/
theorem clean_while' {n : Nat} {τ : Type} {f : Int → Option (Int ⊕ (Unit ⊕ τ))} (h : ∀ i : Nat, i < n → f (i : Int) = some (.inl ((i + 1 : Nat) : Int)))
    (h0 : f (n : Int) = some (.inr (.inl ()))) : ∀ k i F, i + k = n → k < F → whileM f F (i : Int) = some (.inl ())
  | 0, i, F, e, hF => by
    obtain ⟨F, rfl⟩ : ∃ G, F = G + 1 := ⟨F - 1, by omega⟩
    rw [whileM, show i = n by omega, h0]; rfl
  | k + 1, i, F, e, hF => by
    obtain ⟨F, rfl⟩ : ∃ G, F = G + 1 := ⟨F - 1, by omega⟩
    rw [whileM, h i (by omega)]
    exact clean_while' h h0 k (i + 1) F (by omega) (by omega)
theorem clean0' {n : Nat} {τ : Type} {f : Int → Option (Int ⊕ (Unit ⊕ τ))} (F : Nat) (hF : n < F) (h : ∀ i : Nat, i < n → f (i : Int) = some (.inl ((i + 1 : Nat) : Int)))
    (h0 : f (n : Int) = some (.inr (.inl ()))) : whileM f F (0 : Int) = some (.inl ()) := clean_while' h h0 n 0 F (by omega) hF
end Go.Fk

/-
  Loops over a list that look for a fault. Of no program.
-/
namespace Go.Fk
open Go

theorem getI_nat' {α : Type} (xs : List α) (i : Nat) : getI xs (i : Int) = xs[i]? := by simp [getI]
theorem w64_succ' {i : Nat} (h : i < 9223372036854775807) : w64 ((i : Int) + 1) = ((i + 1 : Nat) : Int) := by rw [w64_of ⟨by omega, by omega⟩]; rfl
/-! loops that look for a fault -/
theorem all_from {α : Type} {p : α → Bool} {xs : List α} {f : Nat → Unit → Option (Unit ⊕ Bool)} (h : ∀ i x, xs[i]? = some x → f i () = some (if p x then .inl () else .inr false)) :
    ∀ k i, i + k = xs.length → forFrom f k i () = some (if (xs.drop i).all p then .inl () else .inr false)
  | 0, i, e => by rw [List.drop_eq_nil_of_le (by omega)]; rfl
  | k + 1, i, e => by
    have hi : i < xs.length := by omega
    rw [forFrom, h i xs[i] (List.getElem?_eq_getElem hi), List.drop_eq_getElem_cons hi, List.all_cons]
    cases hp : p xs[i]
    · rfl
    · simp only [Bool.true_and]
      exact all_from h k (i + 1) (by omega)
theorem all_while {α : Type} {p : α → Bool} {xs : List α} {f : Int → Option (Int ⊕ (Unit ⊕ Bool))} (h : ∀ (i : Nat) x, xs[i]? = some x → f (i : Int) = some (if p x then .inl ((i + 1 : Nat) : Int) else .inr (.inr false)))
    (h0 : f (xs.length : Int) = some (.inr (.inl ()))) : ∀ k i F, i + k = xs.length → k < F → whileM f F (i : Int) = some (if (xs.drop i).all p then .inl () else .inr false)
  | 0, i, F, e, hF => by
    obtain ⟨F, rfl⟩ : ∃ G, F = G + 1 := ⟨F - 1, by omega⟩
    rw [whileM, show i = xs.length by omega, h0, List.drop_eq_nil_of_le (by omega)]; rfl
  | k + 1, i, F, e, hF => by
    obtain ⟨F, rfl⟩ : ∃ G, F = G + 1 := ⟨F - 1, by omega⟩
    have hi : i < xs.length := by omega
    rw [whileM, h i xs[i] (List.getElem?_eq_getElem hi), List.drop_eq_getElem_cons hi, List.all_cons]
    cases hp : p xs[i]
    · rfl
    · simp only [Bool.true_and]
      exact all_while h h0 k (i + 1) F (by omega) (by omega)
end Go.Fk

/-
  The program's and the reference's tests of a word say the same. Of no program.
-/
namespace Go.Fk
open Go

def wordB (b : UInt8) : Bool := (decide ((97 : UInt8) ≤ b) && decide (b ≤ (122 : UInt8))) || (decide ((48 : UInt8) ≤ b) && decide (b ≤ (57 : UInt8)))
def wordS (s : Str) : Bool := s.all wordB && (decide (1 ≤ s.length) && decide (s.length ≤ 12))
theorem byte_all {Q : UInt8 → Prop} (h : ∀ n, n < 256 → Q (UInt8.ofNat n)) (b : UInt8) : Q b := by
  have := h b.toNat b.toNat_lt
  rwa [UInt8.ofNat_toNat] at this
theorem impl_byte (F : Nat) (b : UInt8) : M.impl_wordByte F b = some (wordB b) := by
  unfold M.impl_wordByte wordB
  cases decide ((97 : UInt8) ≤ b) <;> cases decide (b ≤ (122 : UInt8)) <;> cases decide ((48 : UInt8) ≤ b) <;> cases decide (b ≤ (57 : UInt8)) <;> rfl
def foldB (b : UInt8) : UInt8 := if (65 : UInt8) ≤ b ∧ b ≤ (90 : UInt8) then b + 32 else if wordB b then b else 0
theorem spec_fold (F : Nat) (b : UInt8) : M.spec_l1Fold F b = some (foldB b) := by
  unfold M.spec_l1Fold foldB wordB
  by_cases h1 : (65 : UInt8) ≤ b <;> by_cases h2 : b ≤ (90 : UInt8) <;> by_cases h3 : (97 : UInt8) ≤ b <;> by_cases h4 : b ≤ (122 : UInt8) <;> by_cases h5 : (48 : UInt8) ≤ b <;> by_cases h6 : b ≤ (57 : UInt8) <;> simp [h1, h2, h3, h4, h5, h6]
theorem fold_word (b : UInt8) : ((!(foldB b == b)) || (b == 0)) = !wordB b :=
  byte_all (Q := fun b => ((!(foldB b == b)) || (b == 0)) = !wordB b) (by decide +kernel) b
theorem within_len (F : Nat) (n : Nat) : M.impl_within F (n : Int) 1 12 = some (decide (1 ≤ n) && decide (n ≤ 12)) := by
  unfold M.impl_within
  by_cases h : 1 ≤ n
  · rw [decide_eq_true (show (1 : Int) ≤ n by omega), decide_eq_true h, cond_true]
    congr 1
    by_cases h2 : n ≤ 12
    · rw [decide_eq_true h2, decide_eq_true (by omega)]; rfl
    · rw [decide_eq_false h2, decide_eq_false (by omega)]; rfl
  · rw [decide_eq_false (show ¬ (1 : Int) ≤ n by omega), decide_eq_false h]; rfl
theorem in_len (F : Nat) (n : Nat) : M.spec_l1In F (n : Int) 1 12 = some (decide (1 ≤ n) && decide (n ≤ 12)) := within_len F n
theorem impl_word (F : Nat) (s : Str) : M.impl_WordOk F s = some (wordS s) := by
  unfold M.impl_WordOk wordS
  rw [all_from (p := wordB) (xs := s) (fun i x hx => ?_) s.length 0 (by omega), List.drop_zero]
  · cases s.all wordB
    · rfl
    · show (M.impl_within F (s.length : Int) 1 12).bind _ = _
      rw [within_len]; rfl
  · rw [getI_nat', hx, Option.bind_some, impl_byte, Option.bind_some]
    cases wordB x <;> rfl
theorem spec_word (F : Nat) (s : Str) (hF : s.length < F) (hs : s.length ≤ maxLen) : M.spec_l1WordOk F s = some (wordS s) := by
  unfold M.spec_l1WordOk wordS
  have hm : maxLen ≤ 9223372036854775807 := by decide
  rw [show (0 : Int) = ((0 : Nat) : Int) from rfl, all_while (p := wordB) (xs := s) (fun i x hx => ?_) ?_ s.length 0 F (by omega) hF, List.drop_zero]
  · cases s.all wordB
    · rfl
    · show (M.spec_l1In F (s.length : Int) 1 12).bind _ = _
      rw [in_len]; rfl
  · rw [decide_eq_false (by omega)]; rfl
  · have hi := (List.getElem?_eq_some_iff.1 hx).1
    have hw := fold_word x
    rw [decide_eq_true (by omega), cond_true, getI_nat', hx, Option.bind_some, spec_fold, Option.bind_some, Option.bind_some, w64_succ' (by omega)]
    simp only [Option.bind_some]
    generalize (x == 0) = q at hw ⊢
    generalize (foldB x == x) = r at hw ⊢
    generalize wordB x = b at hw ⊢
    cases q <;> cases r <;> cases b <;> first | rfl | (exact absurd hw (by decide))
end Go.Fk

/-
  Loops that keep what fits. Of no program.
-/
namespace Go.Fk
open Go

theorem forE_run' {σ : Type} {f : Nat → σ → Option σ} (Inv : Nat → σ → Prop) (n : Nat)
    (step : ∀ i s, i < n → Inv i s → ∃ s', f i s = some s' ∧ Inv (i + 1) s') : ∀ (k i : Nat) (s : σ), i + k = n → Inv i s → ∃ t, forE f k i s = some t ∧ Inv n t
  | 0, i, s, e, hi => ⟨s, rfl, by rw [← e]; exact hi⟩
  | k + 1, i, s, e, hi => by
    obtain ⟨s', h1, h2⟩ := step i s (by omega) hi
    obtain ⟨t, h3, h4⟩ := forE_run' Inv n step k (i + 1) s' (by omega) h2
    exact ⟨t, by rw [forE, h1]; exact h3, h4⟩
theorem zipAt {α : Type} {xs : List α} {i : Nat} {q : α × Nat} (h : xs.zipIdx[i]? = some q) : xs[i]? = some q.1 ∧ q.2 = i := by
  rw [List.getElem?_zipIdx] at h
  obtain ⟨x, hx, rfl⟩ := Option.map_eq_some_iff.1 h
  exact ⟨hx, by simp⟩
theorem lessTotal : ∀ a b : Str, (!strLess a b) = (strLess b a || b == a)
  | [], [] => rfl
  | [], _ :: _ => rfl
  | _ :: _, [] => rfl
  | a :: x, b :: y => by
    have ih := lessTotal x y
    simp only [strLess] at ih
    simp only [strLess, Op.bytesLess, List.cons_beq_cons]
    rcases Nat.lt_trichotomy a.toNat b.toNat with h | h | h
    · have h1 : decide (a < b) = true := decide_eq_true (UInt8.lt_iff_toNat_lt.2 h)
      have h2 : decide (b < a) = false := decide_eq_false (fun q => by have := UInt8.lt_iff_toNat_lt.1 q; omega)
      have h3 : (b == a) = false := beq_eq_false_iff_ne.2 (fun q => by subst q; omega)
      simp [h1, h2, h3]
    · have h0 := UInt8.toNat_inj.1 h
      subst h0
      have h1 : decide (a < a) = false := decide_eq_false (fun q => by have := UInt8.lt_iff_toNat_lt.1 q; omega)
      simp only [h1, Bool.false_or, beq_self_eq_true, Bool.true_and]
      exact ih
    · have h1 : decide (a < b) = false := decide_eq_false (fun q => by have := UInt8.lt_iff_toNat_lt.1 q; omega)
      have h2 : decide (b < a) = true := decide_eq_true (UInt8.lt_iff_toNat_lt.2 h)
      have h3 : (a == b) = false := beq_eq_false_iff_ne.2 (fun q => by subst q; omega)
      simp [h1, h2, h3]
/-- a loop over neighbours -/
def pairP {α : Type} (ok : α → Bool) (lt : α → α → Bool) (xs : List α) (q : α × Nat) : Bool := ok q.1 && (decide (q.2 = 0) || ((xs[q.2 - 1]?).elim true fun g => lt g q.1))
def pairS {α : Type} (ok : α → Bool) (lt : α → α → Bool) (xs : List α) : Bool := xs.zipIdx.all (pairP ok lt xs)
theorem pair_from {α : Type} {ok : α → Bool} {lt : α → α → Bool} {xs : List α} {f : Nat → Unit → Option (Unit ⊕ Bool)}
    (h : ∀ (i : Nat) x, xs[i]? = some x → f i () = some (if ok x && (decide (i = 0) || ((xs[i - 1]?).elim true fun g => lt g x)) then .inl () else .inr false)) :
    forFrom f xs.length 0 () = some (if pairS ok lt xs then .inl () else .inr false) := by
  have hz : xs.length = xs.zipIdx.length := by simp
  rw [all_from (p := pairP ok lt xs) (xs := xs.zipIdx) (fun i q hq => ?_) xs.length 0 (by omega), List.drop_zero]
  · rfl
  · obtain ⟨hx, hi⟩ := zipAt hq
    rw [h i q.1 hx, pairP, hi]
theorem pair_while {α : Type} {ok : α → Bool} {lt : α → α → Bool} {xs : List α} {f : Int → Option (Int ⊕ (Unit ⊕ Bool))}
    (h : ∀ (i : Nat) x, xs[i]? = some x → f (i : Int) = some (if ok x && (decide (i = 0) || ((xs[i - 1]?).elim true fun g => lt g x)) then .inl ((i + 1 : Nat) : Int) else .inr (.inr false)))
    (h0 : f (xs.length : Int) = some (.inr (.inl ()))) (F : Nat) (hF : xs.length < F) :
    whileM f F (0 : Int) = some (if pairS ok lt xs then .inl () else .inr false) := by
  have hz : xs.length = xs.zipIdx.length := by simp
  have := all_while (p := pairP ok lt xs) (xs := xs.zipIdx) (f := f) (fun i q hq => ?_) (by rw [← hz]; exact h0) xs.length 0 F (by omega) hF
  · rw [List.drop_zero] at this
    exact this
  · obtain ⟨hx, hi⟩ := zipAt hq
    rw [h i q.1 hx, pairP, hi]
theorem pairS_ok {α : Type} {ok : α → Bool} {lt : α → α → Bool} {xs : List α} (h : pairS ok lt xs = true) : (∀ x ∈ xs, ok x = true) ∧ ∀ i, (hi : i + 1 < xs.length) → lt xs[i] xs[i + 1] = true := by
  unfold pairS at h
  rw [List.all_eq_true] at h
  have hat : ∀ i, (hi : i < xs.length) → pairP ok lt xs (xs[i], i) = true := fun i hi => h (xs[i], i) (by
    rw [List.mem_iff_getElem?]
    exact ⟨i, by rw [List.getElem?_zipIdx, List.getElem?_eq_getElem hi]; simp⟩)
  refine ⟨fun x hx => ?_, fun i hi => ?_⟩
  · obtain ⟨i, hi, rfl⟩ := List.mem_iff_getElem.1 hx
    have := hat i hi
    unfold pairP at this
    rw [Bool.and_eq_true] at this
    exact this.1
  · have := hat (i + 1) hi
    unfold pairP at this
    rw [Bool.and_eq_true] at this
    have h2 := this.2
    rw [decide_eq_false (by omega), Nat.add_sub_cancel, List.getElem?_eq_getElem (show i < xs.length by omega)] at h2
    exact h2
theorem withinS (F : Nat) (n a b : Int) : M.impl_within F n a b = some (decide (a ≤ n) && decide (n ≤ b)) := by
  unfold M.impl_within
  cases decide (a ≤ n) <;> rfl
theorem inS (F : Nat) (n a b : Int) : M.spec_l1In F n a b = some (decide (a ≤ n) && decide (n ≤ b)) := by
  unfold M.spec_l1In
  cases decide (a ≤ n) <;> rfl
theorem catLok {α : Type} {n : Nat} {xs ys : List α} (h : (xs.length + ys.length) * n ≤ 140737488355328) : catL n xs ys = some (xs ++ ys) := by rw [catL, if_pos h]
end Go.Fk

/-
  Loops that look for the first element of a kind. Of no program.
-/
namespace Go.Fk
open Go

theorem if_bif {α : Type} (b : Bool) (x y : α) : (if b = true then x else y) = bif b then x else y := by cases b <;> rfl
theorem find_from_at {α σ τ : Type} {xs : List α} {p : α → Bool} {g : α → τ} {s : σ} {f : Nat → σ → Option (σ ⊕ τ)} (h : ∀ i x, xs[i]? = some x → f i s = some (if p x then .inr (g x) else .inl s)) :
    ∀ k i, i + k = xs.length → forFrom f k i s = some (((xs.drop i).find? p).elim (.inl s) fun x => .inr (g x))
  | 0, i, e => by rw [forFrom, List.drop_of_length_le (by omega)]; rfl
  | k + 1, i, e => by
    have hi : i < xs.length := by omega
    rw [forFrom, h i xs[i] (List.getElem?_eq_getElem hi), List.drop_eq_getElem_cons hi, List.find?_cons]
    cases hp : p xs[i]
    · rw [Option.bind_some]; exact find_from_at h k (i + 1) (by omega)
    · rfl
theorem find_from {α σ τ : Type} {xs : List α} (p : α → Bool) (g : α → τ) {s : σ} {f : Nat → σ → Option (σ ⊕ τ)} (h : ∀ i x, xs[i]? = some x → f i s = some (if p x then .inr (g x) else .inl s)) :
    forFrom f xs.length 0 s = some ((xs.find? p).elim (.inl s) fun x => .inr (g x)) := find_from_at h xs.length 0 (by omega)
theorem find_while_at {α τ : Type} {xs : List α} {p : α → Bool} {g : α → τ} {e : τ} {f : Int → Option (Int ⊕ τ)} (h : ∀ (i : Nat) x, xs[i]? = some x → f (i : Int) = some (if p x then .inr (g x) else .inl ((i + 1 : Nat) : Int))) (h0 : f (xs.length : Int) = some (.inr e)) :
    ∀ k i F, i + k = xs.length → k < F → whileM f F (i : Int) = some (((xs.drop i).find? p).elim e g)
  | 0, i, F, he, hF => by
    obtain ⟨F, rfl⟩ : ∃ G, F = G + 1 := ⟨F - 1, by omega⟩
    rw [whileM, show i = xs.length by omega, h0, List.drop_of_length_le (Nat.le_refl _)]; rfl
  | k + 1, i, F, he, hF => by
    obtain ⟨F, rfl⟩ : ∃ G, F = G + 1 := ⟨F - 1, by omega⟩
    have hi : i < xs.length := by omega
    rw [whileM, h i xs[i] (List.getElem?_eq_getElem hi), List.drop_eq_getElem_cons hi, List.find?_cons]
    cases hp : p xs[i]
    · rw [Option.bind_some]; exact find_while_at h h0 k (i + 1) F (by omega) (by omega)
    · rfl
theorem find_while {α τ : Type} {xs : List α} (p : α → Bool) (g : α → τ) {e : τ} {f : Int → Option (Int ⊕ τ)} (F : Nat) (hF : xs.length < F) (h : ∀ (i : Nat) x, xs[i]? = some x → f (i : Int) = some (if p x then .inr (g x) else .inl ((i + 1 : Nat) : Int))) (h0 : f (xs.length : Int) = some (.inr e)) :
    whileM f F (0 : Int) = some ((xs.find? p).elim e g) := find_while_at h h0 xs.length 0 F (by omega) hF
theorem all_while0 {α : Type} (p : α → Bool) {xs : List α} {f : Int → Option (Int ⊕ (Unit ⊕ Bool))} (F : Nat) (hF : xs.length < F) (h : ∀ (i : Nat) x, xs[i]? = some x → f (i : Int) = some (if p x then .inl ((i + 1 : Nat) : Int) else .inr (.inr false)))
    (h0 : f (xs.length : Int) = some (.inr (.inl ()))) : whileM f F (0 : Int) = some (if xs.all p then .inl () else .inr false) := by
  have := all_while (p := p) h h0 xs.length 0 F (by omega) hF
  rwa [List.drop_zero] at this
theorem idx_from_at {α σ : Type} {xs : List α} {p : α → Bool} {s : σ} {f : Nat → σ → Option (σ ⊕ Int)} (h : ∀ i x, xs[i]? = some x → f i s = some (if p x then .inr (i : Int) else .inl s)) :
    ∀ k i, i + k = xs.length → forFrom f k i s = some (((xs.drop i).findIdx? p).elim (.inl s) fun j => .inr ((i + j : Nat) : Int))
  | 0, i, e => by rw [forFrom, List.drop_of_length_le (by omega)]; rfl
  | k + 1, i, e => by
    have hi : i < xs.length := by omega
    rw [forFrom, h i xs[i] (List.getElem?_eq_getElem hi), List.drop_eq_getElem_cons hi, List.findIdx?_cons]
    cases hp : p xs[i]
    · rw [Option.bind_some]
      show forFrom f k (i + 1) s = _
      rw [idx_from_at h k (i + 1) (by omega)]
      cases (xs.drop (i + 1)).findIdx? p with
      | none => rfl
      | some j => simp; omega
    · simp
theorem idx_from {α σ : Type} {xs : List α} (p : α → Bool) {s : σ} {f : Nat → σ → Option (σ ⊕ Int)} (h : ∀ i x, xs[i]? = some x → f i s = some (if p x then .inr (i : Int) else .inl s)) :
    forFrom f xs.length 0 s = some ((xs.findIdx? p).elim (.inl s) fun j => .inr (j : Int)) := by
  rw [idx_from_at h xs.length 0 (by omega), List.drop_zero]
  cases xs.findIdx? p <;> simp
theorem idx_ge {α : Type} (p : α → Bool) (xs : List α) : (decide ((0 : Int) ≤ ((xs.findIdx? p).elim (-1 : Int) fun j => (j : Int)))) = xs.any p := by
  induction xs with
  | nil => rfl
  | cons x r ih =>
    rw [List.findIdx?_cons, List.any_cons]
    cases hp : p x
    · simp only [Bool.false_or, ← ih]
      cases r.findIdx? p with
      | none => rfl
      | some j => simp; omega
    · simp
end Go.Fk

/-
  Loops that gather what each element gives. Of no program.
-/
namespace Go.Fk
open Go

theorem fm_forE_at {α β : Type} {xs : List α} {g : α → List β} {B : Nat} {f : Nat → List β → Option (List β)} (h : ∀ i x acc, xs[i]? = some x → (acc ++ g x).length ≤ B → f i acc = some (acc ++ g x)) :
    ∀ k i acc, i + k = xs.length → (acc ++ (xs.drop i).flatMap g).length ≤ B → forE f k i acc = some (acc ++ (xs.drop i).flatMap g)
  | 0, i, acc, e, hB => by rw [forE, List.drop_of_length_le (by omega)]; simp
  | k + 1, i, acc, e, hB => by
    have hi : i < xs.length := by omega
    rw [List.drop_eq_getElem_cons hi, List.flatMap_cons, ← List.append_assoc] at hB ⊢
    rw [forE, h i xs[i] acc (List.getElem?_eq_getElem hi) (by rw [List.length_append] at hB; omega), Option.bind_some]
    exact fm_forE_at h k (i + 1) _ (by omega) hB
theorem fm_forE {α β : Type} {xs : List α} (g : α → List β) (B : Nat) {f : Nat → List β → Option (List β)} (h : ∀ i x acc, xs[i]? = some x → (acc ++ g x).length ≤ B → f i acc = some (acc ++ g x)) (acc : List β) (hB : (acc ++ xs.flatMap g).length ≤ B) :
    forE f xs.length 0 acc = some (acc ++ xs.flatMap g) := by
  have := fm_forE_at h xs.length 0 acc (by omega) (by rwa [List.drop_zero])
  rwa [List.drop_zero] at this
/-- a loop that folds -/
theorem fold_forE_at {α σ : Type} {xs : List α} {g : σ → α → σ} {f : Nat → σ → Option σ} (h : ∀ i x s, xs[i]? = some x → f i s = some (g s x)) : ∀ k i s, i + k = xs.length → forE f k i s = some ((xs.drop i).foldl g s)
  | 0, i, s, e => by rw [forE, List.drop_of_length_le (by omega)]; rfl
  | k + 1, i, s, e => by
    have hi : i < xs.length := by omega
    rw [forE, h i xs[i] s (List.getElem?_eq_getElem hi), List.drop_eq_getElem_cons hi, Option.bind_some, List.foldl_cons]
    exact fold_forE_at h k (i + 1) _ (by omega)
theorem fold_forE {α σ : Type} {xs : List α} (g : σ → α → σ) {f : Nat → σ → Option σ} (h : ∀ i x s, xs[i]? = some x → f i s = some (g s x)) (s : σ) : forE f xs.length 0 s = some (xs.foldl g s) := by
  have := fold_forE_at h xs.length 0 s (by omega)
  rwa [List.drop_zero] at this
theorem flat_le {α β : Type} {g : α → List β} {m : Nat} : ∀ (xs : List α), (∀ x ∈ xs, (g x).length ≤ m) → (xs.flatMap g).length ≤ xs.length * m
  | [], _ => by simp
  | x :: r, h => by
    have h1 := h x (List.mem_cons_self ..)
    have h2 := flat_le r fun y hy => h y (List.mem_cons_of_mem _ hy)
    rw [List.flatMap_cons, List.length_append, List.length_cons, Nat.add_mul]; omega
end Go.Fk
