import Derived.Test.YtmkhlppjphodfaaGreatDoorLawDocs
import Derived.Test.YtmkhlppjphodfaaGreatDoorLawBase
/-
  The words of a text: the program and the reference find the same. Of no program.
-/
namespace Go.Fk
open Go
def a1H (b : UInt8) : UInt8 := if (65 : UInt8) ≤ b ∧ b ≤ (90 : UInt8) then b + 32 else b
def T2 (b : UInt8) : Bool := W7 (a1H b)
theorem a4J (F : Nat) (b : UInt8) : X2 F b = some (a1H b) := by
 unfold X2 a1H
 by_cases h1 : (65 : UInt8) ≤ b <;> by_cases h2 : b ≤ (90 : UInt8) <;> simp [h1, h2]
 exact a59 (Q := fun b => b + 97 - 65 = b + 32) (by decide +kernel) b
theorem b1I (b : UInt8) : (!(a4G b == 0)) = T2 b := a59 (Q := fun b => (!(a4G b == 0)) = T2 b) (by decide +kernel) b
theorem b5A (b : UInt8) : T2 b = true → a4G b = a1H b := a59 (Q := fun b => T2 b = true → a4G b = a1H b) (by decide +kernel) b
def Q5 (s : k6) (o k : Nat) : List S4 :=
 match s with
 | [] => []
 | b :: r =>
  if T2 b then ⟨(((b :: r).takeWhile T2).map a1H).take 12, (k : Int), (o : Int), ((o + ((b :: r).takeWhile T2).length : Nat) : Int)⟩ :: Q5 ((b :: r).drop ((b :: r).takeWhile T2).length) (o + ((b :: r).takeWhile T2).length) (k + 1)
  else Q5 r (o + 1) k
termination_by s.length
decreasing_by
 ·rename_i h
  simp only [List.length_drop, List.takeWhile_cons, h, if_true, l4]; omega
 ·simp
def a0j (s : k6) : List S4 := Q5 s 0 0
theorem U0 (o k : Nat) : Q5 [] o k = [] := by rw [Q5]
theorem a5g {s : k6} {o k p : Nat} {b : UInt8} (h : s[p]? = some b) (hb : T2 b = false) : Q5 (s.drop p) o k = Q5 (s.drop (p + 1)) (o + 1) k := by
 have hp := (d5.1 h)
 obtain ⟨hlt, rfl⟩ := hp
 rw [List.drop_eq_getElem_cons hlt, Q5, if_neg (by rw [hb]; simp)]
theorem a7T {s : k6} {o k p : Nat} {b : UInt8} (h : s[p]? = some b) (hb : T2 b = true) : Q5 (s.drop p) o k =
  ⟨(((s.drop p).takeWhile T2).map a1H).take 12, (k : Int), (o : Int), ((o + ((s.drop p).takeWhile T2).length : Nat) : Int)⟩ :: Q5 (s.drop (p + ((s.drop p).takeWhile T2).length)) (o + ((s.drop p).takeWhile T2).length) (k + 1) := by
 have hp := (d5.1 h)
 obtain ⟨hlt, rfl⟩ := hp
 rw [← List.drop_drop]
 generalize hd : s.drop p = t
 rw [List.drop_eq_getElem_cons hlt] at hd
 subst hd
 rw [Q5, if_pos hb]
theorem a8J {s : k6} {p : Nat} : p + ((s.drop p).takeWhile T2).length ≤ s.length ∨ s.length < p := by
 have h1 := List.takeWhile_prefix T2 (l := s.drop p)
 have h2 := h1.length_le
 rw [List.length_drop] at h2
 omega
theorem b5U {s : k6} {p j : Nat} (hj : j < ((s.drop p).takeWhile T2).length) : ∃ b, s[p + j]? = some b ∧ T2 b = true ∧ ((s.drop p).takeWhile T2)[j]? = some b := by
 have h1 : ((s.drop p).takeWhile T2)[j]? = some ((s.drop p).takeWhile T2)[j] := i8 hj
 refine ⟨_, ?_, ?_, h1⟩
 ·have h2 := List.takeWhile_prefix T2 (l := s.drop p)
  have h3 := h2.getElem hj
  rw [← List.getElem?_drop, i8 (by have := h2.length_le; omega), ← h3]
 ·exact List.all_eq_true.1 List.all_takeWhile _ (List.getElem_mem hj)
theorem b06 {s : k6} {p : Nat} : s[p + ((s.drop p).takeWhile T2).length]? = none ∨ ∃ b, s[p + ((s.drop p).takeWhile T2).length]? = some b ∧ T2 b = false := by
 cases e : s[p + ((s.drop p).takeWhile T2).length]? with
 | none => exact .inl rfl
 | some b =>
  refine .inr ⟨b, rfl, ?_⟩
  rw [← List.getElem?_drop] at e
  generalize s.drop p = t at e
  induction t with
  | nil => simp at e
  | cons x r ih =>
   by_cases hx : T2 x = true
   ·simp only [List.takeWhile_cons, hx, if_true, l4, List.getElem?_cons_succ] at e
    exact ih e
   ·simp only [List.takeWhile_cons, hx] at e
    simp at e
    subst e
    simpa using hx
theorem b41 {xs : List UInt8} {n : Nat} {x : UInt8} (h : xs.length < n) : xs.take n ++ [x] = (xs ++ [x]).take n := by
 rw [List.take_of_length_le (by omega), List.take_of_length_le (by simp; omega)]
theorem b40 {xs : List UInt8} {n : Nat} {x : UInt8} (h : n ≤ xs.length) : (xs ++ [x]).take n = xs.take n := by
 rw [List.take_append_of_le_length h]
theorem a7g {f : UInt8 → UInt8} {R : List UInt8} {j : Nat} {b : UInt8} (h : R[j]? = some b) : (R.take (j + 1)).map f = (R.take j).map f ++ [f b] := by
 obtain ⟨hlt, rfl⟩ := d5.1 h
 rw [List.take_succ_eq_append_getElem hlt, List.map_append]; rfl
theorem a5q {σ τ : Type} {f : σ → Option (σ ⊕ τ)} {t : τ} (Inv : Nat → σ → Prop) (n : Nat)
  (step : ∀ i s, i < n → Inv i s → (∃ s', f s = some (.inl s') ∧ Inv (i + 1) s') ∨ f s = some (.inr t))
  (fin : ∀ s, Inv n s → f s = some (.inr t)) (k i : Nat) (s : σ) (F : Nat) (he : i + k = n) (hF : k < F) (hi : Inv i s) : r4 f F s = some t := by
 obtain ⟨t', h1, rfl⟩ := H4 (Post := fun t' => t' = t) Inv n (fun i s hi hI => (step i s hi hI).imp id fun h => ⟨t, h, rfl⟩) (fun s hI => ⟨t, fin s hI, rfl⟩) k i s F he hF hi
 exact h1
theorem b5E (F : Nat) (s : k6) (p : Nat) (hp : p ≤ s.length) (hF : s.length + 1 < F)
  {f : Int × List UInt8 → Option ((Int × List UInt8) ⊕ (Int × List UInt8))}
  (h1 : ∀ (q : Nat) (t : List UInt8) b, s[q]? = some b → T2 b = true → t.length < 12 → f ((q : Int), t) = some (.inl (((q + 1 : Nat) : Int), t ++ [a1H b])))
  (h1' : ∀ (q : Nat) (t : List UInt8) b, s[q]? = some b → T2 b = true → ¬ t.length < 12 → f ((q : Int), t) = some (.inl (((q + 1 : Nat) : Int), t)))
  (h2 : ∀ (q : Nat) (t : List UInt8), q ≤ s.length → (s[q]? = none ∨ ∃ b, s[q]? = some b ∧ T2 b = false) → f ((q : Int), t) = some (.inr ((q : Int), t))) :
  r4 f F ((p : Int), []) = some (((p + ((s.drop p).takeWhile T2).length : Nat) : Int), (((s.drop p).takeWhile T2).map a1H).take 12) := by
 have hrl := a8J (s := s) (p := p)
 obtain ⟨t, ht, e⟩ := H4 (f := f) (Post := fun t => t = (((p + ((s.drop p).takeWhile T2).length : Nat) : Int), (((s.drop p).takeWhile T2).map a1H).take 12))
  (fun j st => st = (((p + j : Nat) : Int), ((((s.drop p).takeWhile T2).take j).map a1H).take 12)) ((s.drop p).takeWhile T2).length
  (fun j st hj hi => by
   subst hi
   obtain ⟨b, hb, hw, hr⟩ := b5U hj
   refine .inl ⟨_, ?_, rfl⟩
   by_cases hl : (((((s.drop p).takeWhile T2).take j).map a1H).take 12).length < 12
   ·rw [h1 _ _ b hb hw hl]
    have : ((((s.drop p).takeWhile T2).take j).map a1H).length < 12 := by rw [List.length_take] at hl; omega
    rw [b41 this, ← a7g hr]; rfl
   ·rw [h1' _ _ b hb hw hl]
    have : 12 ≤ ((((s.drop p).takeWhile T2).take j).map a1H).length := by rw [List.length_take] at hl; omega
    rw [a7g (f := a1H) hr, b40 this]; rfl)
  (fun st hi => by
   subst hi
   refine ⟨_, h2 _ _ (by omega) b06, ?_⟩
   rw [List.take_of_length_le (Nat.le_refl _)]) ((s.drop p).takeWhile T2).length 0 ((p : Int), []) F (by omega) (by omega) (by simp)
 rw [ht, e]
theorem b59 (F : Nat) (s : k6) (p : Nat) (hp : p ≤ s.length) (hs : s.length ≤ 2000000) (hF : s.length + 1 < F)
  {f : Int × List UInt8 → Option ((Int × List UInt8) ⊕ (Int × List UInt8))}
  (h1 : ∀ (q : Nat) (t : List UInt8) b, s[q]? = some b → T2 b = true → t.length ≤ 2000000 → f ((q : Int), t) = some (.inl (((q + 1 : Nat) : Int), t ++ [a1H b])))
  (h2 : ∀ (q : Nat) (t : List UInt8), q ≤ s.length → (s[q]? = none ∨ ∃ b, s[q]? = some b ∧ T2 b = false) → f ((q : Int), t) = some (.inr ((q : Int), t))) :
  r4 f F ((p : Int), []) = some (((p + ((s.drop p).takeWhile T2).length : Nat) : Int), ((s.drop p).takeWhile T2).map a1H) := by
 have hrl := a8J (s := s) (p := p)
 obtain ⟨t, ht, e⟩ := H4 (f := f) (Post := fun t => t = (((p + ((s.drop p).takeWhile T2).length : Nat) : Int), ((s.drop p).takeWhile T2).map a1H))
  (fun j st => st = (((p + j : Nat) : Int), (((s.drop p).takeWhile T2).take j).map a1H)) ((s.drop p).takeWhile T2).length
  (fun j st hj hi => by
   subst hi
   obtain ⟨b, hb, hw, hr⟩ := b5U hj
   refine .inl ⟨_, ?_, rfl⟩
   rw [h1 _ _ b hb hw (by rw [List.length_map, List.length_take]; omega), ← a7g hr]; rfl)
  (fun st hi => by
   subst hi
   refine ⟨_, h2 _ _ (by omega) b06, ?_⟩
   rw [List.take_of_length_le (Nat.le_refl _)]) ((s.drop p).takeWhile T2).length 0 ((p : Int), []) F (by omega) (by omega) (by simp)
 rw [ht, e]
theorem b2T (F : Nat) (s : k6) (hs : s.length ≤ 2000000) (hF : s.length + 1 < F) : a0t F s = some (if a0P s then a0j s else []) := by
 unfold a0t
 rw [a6W, a8]
 cases ht : a0P s
 ·rfl
 simp only [l5, g8, if_true]
 have hg : ∀ (q : Nat) b, s[q]? = some b → n5 s (q : Int) = some b := fun q b h => by rw [j8]; exact h
 have hlt : ∀ (q : Nat) b, s[q]? = some b → decide ((q : Int) < (s.length : Int)) = true := fun q b h => c7 (by have := (d5.1 h).1; omega)
 rw [a5q (t := a0j s) (fun i st => ∃ (out : List S4) (o : Nat), st = (out, (o : Int)) ∧ i ≤ o ∧ o ≤ s.length ∧ out.length ≤ o ∧ out ++ Q5 (s.drop o) o out.length = a0j s) s.length
  (fun i st hi ⟨out, o, e1, e2, e3, e4, e5⟩ => ?_) (fun st ⟨out, o, e1, e2, e3, e4, e5⟩ => ?_) s.length 0 (([] : List S4), (0 : Int)) F (by omega) (by omega) ⟨[], 0, rfl, by omega, by omega, by simp, by simp [a0j]⟩]
 ·rfl
 ·subst e1
  rcases Nat.lt_or_ge o s.length with hol | hol
  ·have hb : s[o]? = some s[o] := i8 hol
   rw [hlt o _ hb, i4, hg o _ hb, a8, a4J, a8, a2R, a8]
   cases hw : T2 s[o]
   ·rw [show W7 (a1H s[o]) = false from hw]
    refine .inl ⟨(out, ((o + 1 : Nat) : Int)), ?_, out, o + 1, rfl, by omega, by omega, by omega, ?_⟩
    ·rw [s4 (by omega)]; rfl
    ·rw [← e5, a5g hb hw]
   ·rw [show W7 (a1H s[o]) = true from hw]
    have hrl := a8J (s := s) (p := o)
    have hpos : 0 < ((s.drop o).takeWhile T2).length := by rw [List.drop_eq_getElem_cons hol, List.takeWhile_cons, if_pos hw]; simp
    refine .inl ⟨(out ++ [⟨(((s.drop o).takeWhile T2).map a1H).take 12, (out.length : Int), (o : Int), ((o + ((s.drop o).takeWhile T2).length : Nat) : Int)⟩], ((o + ((s.drop o).takeWhile T2).length : Nat) : Int)), ?_, _, _, rfl, by omega, by omega, by rw [k7, k5]; omega, ?_⟩
    ·simp only [l5, g8]
     rw [b5E F s o e3 hF ?_ ?_ ?_, a8, a8, G7 (by simp; omega)]
     ·rfl
     ·intro q t b hb hw hl
      rw [hlt q b hb, i4, hg q b hb, a8, a4J, a8, a2R, a8, a8, show W7 (a1H b) = true from hw, i4, c7 (show (t.length : Int) < 12 by omega), i4, a8, a4J, a8, G7 (by simp; omega), a8, s4 (by have := (d5.1 hb).1; omega)]
     ·intro q t b hb hw hl
      rw [hlt q b hb, i4, hg q b hb, a8, a4J, a8, a2R, a8, a8, show W7 (a1H b) = true from hw, i4, c6 (show ¬ (t.length : Int) < 12 by omega), g8, s4 (by have := (d5.1 hb).1; omega)]
     ·intro q t hq hor
      rcases hor with hn | ⟨b, hb, hw⟩
      ·rw [c6 (show ¬ (q : Int) < s.length by have := List.getElem?_eq_none_iff.1 hn; omega)]; rfl
      ·rw [hlt q b hb, i4, hg q b hb, a8, a4J, a8, a2R, a8, a8, show W7 (a1H b) = false from hw]; rfl
    ·rw [List.append_assoc, ← e5, a7T hb hw, k7, k5]; rfl
  ·refine .inr ?_
   rw [c6 (by omega)]
   show some (Sum.inr out) = _
   rw [← e5, List.drop_of_length_le hol, U0, List.append_nil]
 ·subst e1
  have : o = s.length := by omega
  subst this
  rw [c6 (by omega)]
  show some (Sum.inr out) = _
  rw [← e5, List.drop_of_length_le (Nat.le_refl _), U0, List.append_nil]
theorem b3c (F : Nat) (s : k6) (hs : s.length ≤ 2000000) (hF : s.length + 2 < F) : a0z F s = some (a0j s) := by
 unfold a0z
 have hg : ∀ (q : Nat) b, s[q]? = some b → n5 s (q : Int) = some b := fun q b h => by rw [j8]; exact h
 have hlt : ∀ (q : Nat) b, s[q]? = some b → decide ((q : Int) < (s.length : Int)) = true := fun q b h => c7 (by have := (d5.1 h).1; omega)
 have hrun : ∀ (o : Nat), o ≤ s.length → _ := fun o ho => b59 F s o ho hs (by omega) (f := fun (s55 : Int × (List UInt8)) => (Option.bind ((cond (decide (s55.1 < (s.length : Int))) (Option.bind (n5 s s55.1) fun x81 => (Option.bind (N5 F x81) fun r84 => (some (!(r84 == (0 : UInt8)))))) (some false)) : Option Bool) fun o72 => (cond o72 (Option.bind (n5 s s55.1) fun x94 => (Option.bind (N5 F x94) fun r97 => (Option.bind (L8 1 s55.2 ([r97] : List UInt8)) fun x112 => (some (.inl ((u6 (s55.1 + (1 : Int))), x112)))))) (some (.inr (s55.1, s55.2))))))
  (fun q t b hb hw hl => by
   show Option.bind _ _ = _
   rw [hlt q b hb, i4, hg q b hb, a8, a5o, a8, a8, show (!(a4G b == 0)) = true by rw [b1I]; exact hw, i4, a8, a5o, a8, G7 (by simp; omega), a8, s4 (by have := (d5.1 hb).1; omega), b5A b hw])
  (fun q t hq hor => by
   show Option.bind _ _ = _
   rcases hor with hn | ⟨b, hb, hw⟩
   ·rw [c6 (show ¬ (q : Int) < s.length by have := List.getElem?_eq_none_iff.1 hn; omega)]; rfl
   ·rw [hlt q b hb, i4, hg q b hb, a8, a5o, a8, a8, show (!(a4G b == 0)) = false by rw [b1I]; exact hw]; rfl)
 rw [a5q (t := a0j s) (fun i st => ∃ (out : List S4) (o : Nat), st = (out, (o : Int)) ∧ i ≤ o ∧ o ≤ s.length + 1 ∧ out.length ≤ o ∧ out ++ Q5 (s.drop o) o out.length = a0j s) s.length
  (fun i st hi ⟨out, o, e1, e2, e3, e4, e5⟩ => ?_) (fun st ⟨out, o, e1, e2, e3, e4, e5⟩ => ?_) s.length 0 (([] : List S4), (0 : Int)) F (by omega) (by omega) ⟨[], 0, rfl, by omega, by omega, by simp, by simp [a0j]⟩]
 ·rfl
 ·subst e1
  rcases Nat.lt_or_ge o s.length with hol | hol
  ·have hb : s[o]? = some s[o] := i8 hol
   have hrl := a8J (s := s) (p := o)
   rw [hlt o _ hb, i4, hrun o (by omega), a8, a8]
   simp only
   have hcut : (Option.bind ((cond (decide ((12 : Int) < ((((s.drop o).takeWhile T2).map a1H).length : Int))) (Option.bind (a2O (((s.drop o).takeWhile T2).map a1H) 0 (12 : Int)) fun x139 => (some x139)) (some (((s.drop o).takeWhile T2).map a1H))) : Option (List UInt8)) fun x => some x) = some ((((s.drop o).takeWhile T2).map a1H).take 12) := by
    by_cases hl : 12 < (((s.drop o).takeWhile T2).map a1H).length
    ·rw [c7 (by omega), i4, a2O, if_pos (by omega)]; rfl
    ·rw [c6 (by omega), g8, List.take_of_length_le (by omega)]; rfl
   rw [show ∀ o : Option (List UInt8), (Option.bind o fun x => some x) = o from fun o => by cases o <;> rfl] at hcut
   rw [hcut, a8]
   cases hw : T2 s[o]
   ·have hnil : (s.drop o).takeWhile T2 = [] := by rw [List.drop_eq_getElem_cons hol, List.takeWhile_cons, hw]; simp
    rw [hnil]
    refine .inl ⟨(out, ((o + 1 : Nat) : Int)), ?_, out, o + 1, rfl, by omega, by omega, by omega, ?_⟩
    ·simp only [List.map_nil, List.take_nil, List.length_nil, Nat.add_zero]
     rw [s4 (by omega)]; rfl
    ·rw [← e5, a5g hb hw]
   ·have hpos : 0 < ((s.drop o).takeWhile T2).length := by rw [List.drop_eq_getElem_cons hol, List.takeWhile_cons, if_pos hw]; simp
    rw [c7 (by rw [List.length_take, List.length_map]; omega), i4, G7 (by simp; omega), a8, s4 (by omega)]
    refine .inl ⟨_, rfl, _, _, rfl, by omega, by omega, by rw [k7, k5]; omega, ?_⟩
    have e9 : Q5 (s.drop (o + ((s.drop o).takeWhile T2).length + 1)) (o + ((s.drop o).takeWhile T2).length + 1) (out.length + 1) = Q5 (s.drop (o + ((s.drop o).takeWhile T2).length)) (o + ((s.drop o).takeWhile T2).length) (out.length + 1) := by
     rcases b06 (s := s) (p := o) with hn | ⟨b, hb2, hw2⟩
     ·have := List.getElem?_eq_none_iff.1 hn
      rw [List.drop_of_length_le (i := o + ((s.drop o).takeWhile T2).length + 1) (by omega), List.drop_of_length_le (i := o + ((s.drop o).takeWhile T2).length) (by omega), U0, U0]
     ·exact (a5g hb2 hw2).symm
    rw [List.append_assoc, ← e5, a7T hb hw, k7, k5, e9]; rfl
  ·refine .inr ?_
   rw [c6 (by omega)]
   show some (Sum.inr out) = _
   rw [← e5, List.drop_of_length_le hol, U0, List.append_nil]
 ·subst e1
  rw [c6 (by omega)]
  show some (Sum.inr out) = _
  rw [← e5, List.drop_of_length_le (by omega), U0, List.append_nil]
end Go.Fk
set_option linter.unusedVariables false
namespace Go.Fk
open Go
def a5M : List k6 := [[105, 110, 103], [101, 100], [101, 115], [108, 121], [115]]
def a6P (s e : k6) : Bool := decide (e.length + 3 ≤ s.length) && (s.drop (s.length - e.length) == e)
def b0G (s e : k6) : k6 := s.take (s.length - e.length)
def T4 (s : k6) : k6 := (a5M.find? (a6P s)).elim s (b0G s)
theorem a8T {e : k6} (h : e ∈ a5M) : 1 ≤ e.length ∧ e.length ≤ 3 := by
 simp only [a5M, List.mem_cons, List.not_mem_nil, or_false] at h
 rcases h with rfl | rfl | rfl | rfl | rfl <;> decide
theorem a3a (s : k6) : (a5M.find? (a6P s) = none ∧ T4 s = s) ∨ ∃ e, a5M.find? (a6P s) = some e ∧ T4 s = b0G s e ∧ 1 ≤ e.length ∧ e.length + 3 ≤ s.length := by
 unfold T4
 cases h : a5M.find? (a6P s) with
 | none => exact .inl ⟨rfl, rfl⟩
 | some e =>
  have h1 := List.find?_some h
  have h2 := a8T (List.mem_of_find?_eq_some h)
  simp only [a6P, l6, decide_eq_true_iff] at h1
  exact .inr ⟨e, rfl, rfl, h2.1, h1.1⟩
theorem a00 {s : k6} (h : T4 s ≠ s) : (T4 s).length < s.length := by
 rcases a3a s with ⟨_, h1⟩ | ⟨e, _, h1, h2, h3⟩
 ·exact absurd h1 h
 ·rw [h1, b0G, List.length_take]; omega
theorem b6T {s e : k6} (h : a5M.find? (a6P s) = some e) : T4 s ≠ s := by
 rcases a3a s with ⟨h0, _⟩ | ⟨e', h1, h2, h3, h4⟩
 ·rw [h] at h0; cases h0
 ·intro h5
  have := congrArg List.length h5
  rw [h2, b0G, List.length_take] at this; omega
theorem b5O (s : k6) : (T4 s).length ≤ s.length := by
 rcases a3a s with ⟨_, h1⟩ | ⟨e, _, h1, h2, h3⟩
 ·rw [h1]; exact Nat.le_refl _
 ·rw [h1, b0G, List.length_take]; omega
def W4 (s : k6) : k6 := if h : T4 s = s then s else W4 (T4 s)
termination_by s.length
decreasing_by exact a00 h
theorem a7m {s : k6} (h : T4 s = s) : W4 s = s := by rw [W4, dif_pos h]
theorem b1e {s : k6} (h : T4 s ≠ s) : W4 s = W4 (T4 s) := by rw [W4, dif_neg h]
theorem a9G {P : k6 → k6 → Prop} (h0 : ∀ s, T4 s = s → P s s) (h1 : ∀ s t, T4 s ≠ s → P (T4 s) t → P s t) : ∀ s, P s (W4 s) := by
 intro s
 induction hn : s.length using Nat.strongRecOn generalizing s with
 | _ n ih =>
  subst hn
  by_cases h : T4 s = s
  ·rw [a7m h]; exact h0 s h
  ·rw [b1e h]; exact h1 s _ h (ih _ (a00 h) _ rfl)
theorem b2t (s : k6) : (W4 s).length ≤ s.length := a9G (P := fun s t => t.length ≤ s.length) (fun s _ => Nat.le_refl _) (fun s t _ h => Nat.le_trans h (b5O s)) s
theorem b2u (s : k6) : W4 s <+: s := a9G (P := fun s t => t <+: s) (fun s _ => List.prefix_refl s) (fun s t _ h => h.trans (by
 rcases a3a s with ⟨_, h1⟩ | ⟨e, _, h1, _⟩
 ·rw [h1]; exact List.prefix_refl s
 ·rw [h1]; exact List.take_prefix _ _)) s
theorem b6c (s : k6) (h : 1 ≤ s.length) : 1 ≤ (W4 s).length := by
 have := a9G (P := fun s t => 1 ≤ s.length → 1 ≤ t.length) (fun s _ h => h) (fun s t hne ih _ => ih (by
  rcases a3a s with ⟨_, h1⟩ | ⟨e, _, h1, h2, h3⟩
  ·exact absurd h1 hne
  ·rw [h1, b0G, List.length_take]; omega)) s
 exact this h
theorem b47 {s : k6} (h : C4 s = true) : C4 (W4 s) = true := by
 simp only [C4, l6, decide_eq_true_iff, List.all_eq_true] at h ⊢
 have h1 := b6c s h.2.1
 have h2 := b2t s
 exact ⟨fun b hb => h.1 b ((b2u s).subset hb), h1, by omega⟩
theorem b2v {s : k6} {k : Nat} (h : k ≤ s.length) : a06 s (k : Int) s.length = some (s.drop k) := by
 rw [a06, if_pos (by omega)]
 simp
theorem b3V {s : k6} {k : Nat} (h : k ≤ s.length) : a06 s 0 (k : Int) = some (s.take k) := by
 rw [a06, if_pos (by omega)]
 simp
theorem b4j (F : Nat) (s e : k6) (hs : s.length ≤ 2000000) : P7 F s e = some (decide (e.length ≤ s.length) && (s.drop (s.length - e.length) == e)) := by
 unfold P7 O7
 by_cases h : e.length ≤ s.length
 ·rw [c7 (show (e.length : Int) ≤ s.length by omega), i4, c7 h, y8 ⟨by omega, by omega⟩, show (s.length : Int) - e.length = ((s.length - e.length : Nat) : Int) by omega, b2v (by omega)]
  rfl
 ·rw [c6 (show ¬ (e.length : Int) ≤ s.length by omega), g8, c6 h]
  rfl
theorem b6y (s e : k6) : ((decide (e.length ≤ s.length) && (s.drop (s.length - e.length) == e)) && decide (e.length + 3 ≤ s.length)) = a6P s e := by
 unfold a6P
 by_cases h : e.length + 3 ≤ s.length
 ·rw [c7 h, c7 (show e.length ≤ s.length by omega)]; simp
 ·rw [c6 h]; simp
theorem b0x (F : Nat) : a1c F = some a5M := rfl
theorem b4Q (F : Nat) (s : k6) (hs : s.length ≤ 2000000) (hF : 5 < F) : Q7 F s = some (T4 s) := by
 unfold Q7
 rw [X9 (xs := a5M) (a6P s) (fun e => Sum.inr (b0G s e)) (e := Sum.inl ()) F hF (fun i e he => ?_) ?_]
 ·unfold T4
  cases a5M.find? (a6P s) <;> rfl
 ·rw [b0x, a8, c6 (by omega)]; rfl
 ·have hi := (d5.1 he).1
  have hel := a8T (j7 he)
  rw [b0x, a8, c7 (by omega), i4, a8, j8, he, a8]
  have hw : u6 ((s.length : Int) - (e.length : Int)) = (s.length : Int) - e.length := y8 ⟨by omega, by omega⟩
  rw [hw]
  unfold a6P
  by_cases h : e.length + 3 ≤ s.length
  ·rw [c7 (show (3 : Int) ≤ (s.length : Int) - e.length by omega), i4, c7 h, show (s.length : Int) - e.length = ((s.length - e.length : Nat) : Int) by omega, b2v (by omega), a8, a8, l7]
   cases s.drop (s.length - e.length) == e
   ·rw [g8, s4 (by have : a5M.length = 5 := rfl; omega)]; rfl
   ·rw [i4, b3V (by omega)]; rfl
  ·rw [c6 (show ¬ (3 : Int) ≤ (s.length : Int) - e.length by omega), g8, c6 h, a8, g8, s4 (by have : a5M.length = 5 := rfl; omega)]; rfl
theorem a7k (F : Nat) (s : k6) (hs : s.length ≤ 2000000) (hF : s.length + 6 < F) : T9 F s = some (W4 s) := by
 have key : ∀ (G : Nat) (t : k6), t.length < G → t.length ≤ 2000000 → r4 (σ := k6) (τ := k6) (fun (s10 : k6) => (Option.bind (Q7 F s10) fun r22 => (cond (!(r22 == s10)) (Option.bind (Q7 F s10) fun r33 => (some (.inl r33))) (some (.inr s10))))) G t = some (W4 t) := by
  intro G
  induction G with
  | zero => intro t h; omega
  | succ G ih =>
   intro t h ht
   rw [r4, b4Q F t ht (by omega), a8]
   by_cases he : T4 t = t
   ·rw [he, a7m he]; simp
   ·rw [b1e he, show (T4 t == t) = false from by simpa using he]
    simp only [Bool.not_false, i4, a8, Sum.elim_inl]
    exact ih _ (by have := a00 he; omega) (by have := a00 he; omega)
 unfold T9
 rw [key F s (by omega) hs]; rfl
theorem b4W {f : k6 × Bool → Option ((k6 × Bool) ⊕ k6)} (h1 : ∀ t : k6, t.length ≤ 2000000 → f (t, true) = some (.inl (T4 t, !(T4 t == t)))) (h2 : ∀ t, f (t, false) = some (.inr t)) :
  ∀ (G : Nat) (t : k6), t.length + 1 < G → t.length ≤ 2000000 → r4 f G (t, true) = some (W4 t) := by
 intro G
 induction G with
 | zero => intro t h; omega
 | succ G ih =>
  intro t h ht
  rw [r4, h1 t ht, a8]
  by_cases he : T4 t = t
  ·rw [he, a7m he]
   obtain ⟨G, rfl⟩ : ∃ H, G = H + 1 := ⟨G - 1, by omega⟩
   rw [show (!(t == t)) = false from by simp]
   simp only [Sum.elim_inl]
   rw [r4, h2]; rfl
  ·rw [b1e he, show (T4 t == t) = false from by simpa using he]
   exact ih _ (by have := a00 he; omega) (by have := a00 he; omega)
theorem b4r (F : Nat) (s : k6) (hs : s.length ≤ 2000000) (hF : s.length + 6 < F) : Q6 F s = some (if C4 s then W4 s else []) := by
 unfold Q6
 rw [H8, a8]
 cases hw : C4 s
 ·rfl
 simp only [l5, g8, if_true]
 rw [b4W (fun t ht => ?_) (fun t => ?_) F s (by omega) hs]
 ·rfl
 ·rw [i4]
  rw [show ([([105, 110, 103] : k6), ([101, 100] : k6), ([101, 115] : k6), ([108, 121] : k6), ([115] : k6)] : List k6) = a5M from rfl, a15 (xs := a5M) (a6P t) (fun e => (b0G t e, true)) (fun i e he => ?_)]
  ·cases h : a5M.find? (a6P t) with
   | none =>
    have : T4 t = t := by unfold T4; rw [h]; rfl
    simp [this]
   | some e =>
    have h1 := b6T h
    have h2 : T4 t = b0G t e := by unfold T4; rw [h]; rfl
    rw [show (T4 t == t) = false from by simpa using h1, h2]; rfl
  ·have hel := a8T (j7 he)
   have hww : u6 ((t.length : Int) - (e.length : Int)) = (t.length : Int) - e.length := y8 ⟨by omega, by omega⟩
   rw [j8, he, a8]
   simp only
   rw [b4j F t e ht, a8, hww, ← b6y]
   cases hq : (decide (e.length ≤ t.length) && (t.drop (t.length - e.length) == e))
   ·rfl
   ·rw [i4, a8, l7]
    by_cases h : e.length + 3 ≤ t.length
    ·rw [c7 (show (3 : Int) ≤ (t.length : Int) - e.length by omega), c7 h, i4, show (t.length : Int) - e.length = ((t.length - e.length : Nat) : Int) by omega, b3V (by omega)]; rfl
    ·rw [c6 (show ¬ (3 : Int) ≤ (t.length : Int) - e.length by omega), c6 h]; rfl
 ·rfl
end Go.Fk
set_option linter.unusedVariables false
namespace Go.Fk
open Go
theorem a9D (F : Nat) (xs : List k6) (v : k6) (hl : xs.length ≤ 2000000) (hF : xs.length < F) : X4 F xs v = some (xs.any (· == v)) := by
 unfold X4
 rw [X9 (xs := xs) (fun x => x == v) (fun _ => Sum.inr true) (e := Sum.inl ()) F hF (fun i x hx => ?_) ?_]
 ·rw [← List.isSome_find?]
  cases xs.find? (· == v) <;> rfl
 ·rw [c6 (by omega)]; rfl
 ·have hi := (d5.1 hx).1
  rw [c7 (by omega), i4, j8, hx, a8, s4 (by omega)]
  cases x == v <;> rfl
theorem b7e (a b : k6) : (a == b) = (b == a) := by
 rw [Bool.eq_iff_iff]; simp only [beq_iff_eq]; exact eq_comm
theorem a3w (F : Nat) (xs : List k6) (v : k6) : F4 F xs v = some (xs.any (· == v)) := by
 unfold F4 S2
 rw [b1K (xs := xs) (fun x => x == v) (fun i x hx => ?_)]
 ·rw [← b8d]
  cases xs.findIdx? (· == v) <;> rfl
 ·rw [j8, hx, a8, b7e v x]
  cases x == v <;> rfl
def a5P (stops : List k6) (w : k6) : Bool := C4 w && ((W4 w == w) && !stops.any (· == w))
def a5J (stops : List k6) (r : Q0) : Bool := ((decide ((1 : Int) ≤ r.From.length) && decide ((r.From.length : Int) ≤ 3)) && (C4 r.To && (W4 r.To == r.To))) && r.From.all (a5P stops)
def b36 (xs : List k6) : Bool := a1D C4 y5 xs
def Q9 (c : q9) : Bool := (decide ((c.Stops.length : Int) ≤ 6) && b36 c.Stops && decide ((c.Syns.length : Int) ≤ 4)) && c.Syns.all (a5J c.Stops)
structure a2i (B : Nat) (c : q9) : Prop where
 stops : c.Stops.length ≤ B ∧ ∀ s ∈ c.Stops, s.length ≤ B
 syns : c.Syns.length ≤ B ∧ ∀ r ∈ c.Syns, r.From.length ≤ B ∧ r.To.length ≤ B ∧ ∀ w ∈ r.From, w.length ≤ B
theorem Q4 {s : k6} (h : C4 s = true) : s.length ≤ 12 := by
 simp only [C4, l6, decide_eq_true_iff] at h
 exact h.2.2
theorem b5C (F : Nat) (xs : List k6) (hl : xs.length ≤ 2000000) : R2 F xs = some (b36 xs) := by
 unfold R2 b36
 rw [a3S (ok := C4) (lt := y5) (xs := xs) (fun i x hx => ?_)]
 ·cases a1D C4 y5 xs <;> rfl
 ·have hi := (d5.1 hx).1
  rw [j8, hx, a8, H8, a8]
  cases C4 x
  ·rfl
  ·simp only [l5, g8, l7]
   rcases Nat.eq_zero_or_pos i with rfl | hp
   ·rfl
   ·rw [c7 (by omega), i4, W6 hp (by omega), j8, c6 (by omega), Bool.false_or]
    have h1 : i - 1 < xs.length := by omega
    rw [i8 h1]
    simp only [a8, Option.elim_some]
    exact (show ∀ b : Bool, (bif !b then some (Sum.inr false) else some (Sum.inl ())) = some (if b = true then Sum.inl () else Sum.inr false) from fun b => by cases b <;> rfl) _
theorem b1f (F : Nat) (s : k6) (h : C4 s = true) (hF : 20 < F) : Q6 F s = some (W4 s) := by
 rw [b4r F s (by have := Q4 h; omega) (by have := Q4 h; omega), h]; rfl
theorem a6V (F : Nat) (c : q9) (h1 : c.Stops.length ≤ 2000000) (hF : 20 < F) : T6 F c = some (Q9 c) := by
 unfold T6 Q9
 rw [b5C F _ h1]
 by_cases h6 : (c.Stops.length : Int) ≤ 6
 case neg =>
  rw [c6 h6, c7 (by omega)]; rfl
 rw [c7 h6, c6 (by omega), g8, a8]
 cases b36 c.Stops
 ·rfl
 simp only [l5, g8, a8, l7]
 by_cases h4 : (c.Syns.length : Int) ≤ 4
 case neg =>
  rw [c6 h4, c7 (by omega)]; rfl
 rw [c7 h4, c6 (by omega), g8, l7]
 rw [T1 (p := a5J c.Stops) (xs := c.Syns) (fun i r hr => ?_) c.Syns.length 0 (by omega), List.drop_zero]
 ·cases c.Syns.all (a5J c.Stops) <;> rfl
 ·rw [j8, hr, a8, M4, a8, a5J]
  cases decide ((1 : Int) ≤ r.From.length) && decide ((r.From.length : Int) ≤ 3)
  ·rfl
  simp only [l5, g8, l7]
  rw [H8, a8]
  cases hw : C4 r.To
  ·rfl
  simp only [l5, g8, l7]
  rw [b1f F _ hw hF, a8, a8]
  cases W4 r.To == r.To
  ·rfl
  simp only [l5, g8, l7]
  rw [T1 (p := a5P c.Stops) (xs := r.From) (fun j w hj => ?_) r.From.length 0 (by omega), List.drop_zero]
  ·cases r.From.all (a5P c.Stops) <;> rfl
  ·rw [j8, hj, a8, H8, a8, a5P]
   cases hw2 : C4 w
   ·rfl
   simp only [l5, g8, l7]
   rw [b1f F _ hw2 hF, a8]
   cases W4 w == w
   ·rfl
   simp only [l5, g8, l7]
   rw [a3w, a8, a8]
   cases c.Stops.any (· == w) <;> rfl
theorem a0N (F : Nat) (s : k6) (B : Nat) (hs : s.length ≤ B) (hB : B ≤ 2000000) (hF : B + 20 < F) : B0 F s = some (C4 s) :=
 a7l F s (by omega) (by have h0 : 2000000 ≤ maxLen := (by decide); omega)
theorem b56 {xs : List k6} {F B : Nat} (hl : xs.length ≤ B) (hs : ∀ s ∈ xs, s.length ≤ B) (hB : B ≤ 2000000) (hF : B + 20 < F) {f : Int → Option (Int ⊕ (Unit ⊕ Bool))}
  (h : ∀ s : Int, f s = (cond (decide (s < (xs.length : Int))) (Option.bind ((Option.bind (n5 xs s) fun x42 => (Option.bind (B0 F x42) fun r52 => (cond (!r52) (some true) (cond (decide ((0 : Int) < s)) (Option.bind (n5 xs s) fun x67 => (Option.bind (n5 xs (u6 (s - (1 : Int)))) fun x77 => (some (y5 x67 x77 || x67 == x77)))) (some false))))) : Option Bool) fun o35 => (cond o35 (some (.inr (.inr false))) (some (.inl (u6 (s + (1 : Int))))))) (some (.inr (.inl ()))))) :
  r4 f F (0 : Int) = some (if b36 xs then .inl () else .inr false) := by
 refine a3c (ok := C4) (lt := y5) (xs := xs) (fun i x hx => ?_) ?_ F (by omega)
 ·have hi := (d5.1 hx).1
  rw [h, c7 (by omega), i4, j8, hx, a8, a0N F x B (hs x (j7 hx)) hB hF, a8]
  cases C4 x
  ·rfl
  ·simp only [l5, g8, l7]
   rw [s4 (by omega)]
   rcases Nat.eq_zero_or_pos i with rfl | hp
   ·rfl
   ·rw [c7 (by omega), i4, a8, W6 hp (by omega), j8, c6 (by omega), Bool.false_or]
    have h1 : i - 1 < xs.length := by omega
    rw [i8 h1]
    simp only [a8, Option.elim_some]
    have := a3P xs[i - 1] x
    rw [← this]
    exact (show ∀ b : Bool, (bif !b then some (Sum.inr (Sum.inr false)) else some (Sum.inl ((i + 1 : Nat) : Int))) = some (if b = true then Sum.inl ((i + 1 : Nat) : Int) else Sum.inr (Sum.inr false)) from fun b => by cases b <;> rfl) _
 ·rw [h, c6 (by omega)]; rfl
theorem b0w (F B : Nat) (c : q9) (hc : a2i B c) (hB : B ≤ 2000000) (hF : B + 30 < F) : a1A F c = some (Q9 c) := by
 obtain ⟨⟨h1, h2⟩, h3, h4⟩ := hc
 unfold a1A Q9
 rw [b56 (xs := c.Stops) (B := B) h1 h2 hB (by omega) (fun _ => rfl), a8]
 cases b36 c.Stops
 ·simp only [Bool.and_false, Bool.false_and]; rfl
 rw [if_pos rfl]
 simp only [Bool.and_true]
 show Option.bind _ _ = _
 show Option.bind _ _ = _
 rw [a1v (a5J c.Stops) (xs := c.Syns) F (by omega) (fun i r hr => ?_) ?_, a8]
 ·cases c.Syns.all (a5J c.Stops)
  ·simp only [Bool.and_false]; rfl
  ·rw [if_pos rfl]
   simp only [Bool.and_true]
   show cond _ _ _ = _
   cases decide ((c.Stops.length : Int) ≤ 6) <;> rfl
 ·rw [c6 (by omega)]; rfl
 ·have hi := (d5.1 hr).1
  obtain ⟨g1, g2, g3⟩ := h4 r (j7 hr)
  rw [c7 (by omega), i4, j8, hr, a8]
  rw [a1v (a5P c.Stops) (xs := r.From) F (by omega) (fun j w hj => ?_) ?_, a8, a5J]
  ·cases r.From.all (a5P c.Stops)
   ·simp only [Bool.and_false]; rfl
   ·rw [if_pos rfl]
    simp only [Bool.and_true]
    show Option.bind _ _ = _
    rw [inS, a8, s4 (by omega)]
    cases decide ((1 : Int) ≤ r.From.length) && decide ((r.From.length : Int) ≤ 3)
    ·rfl
    simp only [l5, g8, l7]
    rw [a0N F r.To B g2 hB (by omega), a8]
    cases hw : C4 r.To
    ·rfl
    simp only [l5, g8, l7]
    rw [a7k F r.To (by omega) (by omega), a8, a8]
    cases W4 r.To == r.To <;> rfl
  ·rw [c6 (by omega)]; rfl
  ·have hj2 := (d5.1 hj).1
   have hwl := g3 w (j7 hj)
   rw [c7 (by omega), i4, j8, hj, a8, a0N F w B hwl hB (by omega), a8, a5P, s4 (by omega)]
   cases hw2 : C4 w
   ·rfl
   simp only [l5, g8, l7]
   rw [a8, a7k F w (by omega) (by omega), a8, a8]
   cases W4 w == w
   ·rfl
   simp only [l5, g8, l7]
   rw [a8, a9D F c.Stops w (by omega) (by omega), a8, a8]
   cases c.Stops.any (· == w) <;> rfl
end Go.Fk
