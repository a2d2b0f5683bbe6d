import Derived.Test.YtmkhlppjphodfaaGreatDoorLawTSC
import Derived.Test.YtmkhlppjphodfaaGreatDoorLawDocs
import Derived.Test.YtmkhlppjphodfaaGreatDoorLawBase
/-
  Patterns: the program and the reference match alike. Of no program's steps.
-/
namespace Go.Fk
open Go
def gB (b : UInt8) : Bool := W7 b || (b == 42 || b == 63)
def a8Z (p : k6) : Bool := p.all gB && (decide (1 ≤ (p.length : Int)) && decide ((p.length : Int) ≤ 12))
theorem a7x (F : Nat) (p : k6) : a0b F p = some (a8Z p) := by
 unfold a0b a8Z
 rw [T1 (p := gB) (xs := p) (f := _) (fun i x hx => ?_) p.length 0 (by omega), List.drop_zero]
 ·cases p.all gB
  ·rfl
  ·simp only [if_true, a8, Sum.elim_inl, l7]
   rw [M4]; rfl
 ·rw [j8, hx, a8, a2R, a8]
  unfold gB
  cases W7 x
  ·rw [Bool.not_false, i4, a8]
   cases x == 42
   ·rw [Bool.not_false, i4, a8, a8]
    cases x == 63 <;> rfl
   ·rfl
  ·rfl
theorem P0 (c : UInt8) (s : k6) : a06 (c :: s) (1 : Int) ((c :: s).length : Int) = some s := by
 unfold a06
 rw [if_pos ⟨by omega, by simp only [l4]; omega, by omega⟩]
 simp
theorem a5k (c : UInt8) (s : k6) : n5 (c :: s) (0 : Int) = some c := rfl
def a1k : k6 → k6 → Bool
 | [], s => s == []
 | c :: p, [] => if c == 42 then a1k p [] else false
 | c :: p, x :: s => if c == 42 then a1k p (x :: s) || a1k (c :: p) s else if c == 63 then a1k p s else if c == x then a1k p s else false
termination_by p s => p.length + s.length
theorem b0e : ∀ (n : Nat) (p s : k6) (F : Nat), p.length + s.length ≤ n → n < F → I7 F p s = some (a1k p s)
 | n, [], s, F, hn, hF => by
  obtain ⟨F, rfl⟩ : ∃ G, F = G + 1 := ⟨F - 1, by omega⟩
  rw [a1k]; rfl
 | 0, c :: p, s, F, hn, hF => by simp at hn
 | n + 1, c :: p, s, F, hn, hF => by
  obtain ⟨F, rfl⟩ : ∃ G, F = G + 1 := ⟨F - 1, by omega⟩
  rw [I7]
  dsimp only
  rw [show ((c :: p : k6) == ([] : k6)) = false from rfl, g8, a5k, a8]
  simp only [l4] at hn
  have ih := fun p s h => b0e n p s F h (by omega)
  cases s with
  | nil =>
   rw [a1k]
   cases h42 : c == 42
   ·rfl
   ·rw [i4, P0, a8, ih p [] (by simpa using hn), a8, if_pos rfl]
    cases a1k p [] <;> rfl
  | cons x s =>
   simp only [l4] at hn
   rw [a1k]
   cases h42 : c == 42
   ·rw [g8, show ((x :: s : k6) == ([] : k6)) = false from rfl, g8, if_neg (by simp)]
    rw [a8]
    cases h63 : c == 63
    ·rw [g8, if_neg (by simp), a8, a5k, a8]
     cases hx : c == x
     ·rfl
     ·rw [i4, P0, a8, P0, a8, ih p s (by omega), a8]; rfl
    ·rw [i4, P0, a8, P0, a8, ih p s (by omega), a8]; rfl
   ·rw [i4, P0, a8, ih p (x :: s) (by simp only [l4]; omega), a8, if_pos rfl]
    cases a1k p (x :: s)
    ·rw [g8, show ((x :: s : k6) == ([] : k6)) = false from rfl, Bool.not_false, i4, P0, a8, ih (c :: p) s (by simp only [l4]; omega)]
     rfl
    ·rfl
end Go.Fk
set_option linter.unusedVariables false
namespace Go.Fk
open Go
inductive a3i : r5 → Prop
 | all : a3i ⟨1, [], [], 0, 0, []⟩
 | term {f w : k6} : C4 f = true → C4 w = true → a3i ⟨2, f, [w], 0, 0, []⟩
 | phrase {f : k6} {ws : List k6} {n : Int} : C4 f = true → 2 ≤ ws.length → ws.length ≤ 4 → (∀ w ∈ ws, C4 w = true) → 0 ≤ n → n ≤ 5 → a3i ⟨3, f, ws, n, 0, []⟩
 | near {f w : k6} {n : Int} : C4 f = true → C4 w = true → 1 ≤ n → n ≤ 2 → a3i ⟨4, f, [w], n, 0, []⟩
 | glob {f p : k6} : C4 f = true → a8Z p = true → C4 p = false → a3i ⟨5, f, [p], 0, 0, []⟩
 | range {f : k6} {a b : Int} : C4 f = true → 0 ≤ a → a ≤ 999999999 → a ≤ b → b ≤ 999999999 → a3i ⟨6, f, [], a, b, []⟩
inductive H5 : Nat → r5 → Prop
 | leaf {d : Nat} {q : r5} : a3i q → H5 (d + 1) q
 | and {d : Nat} {ks : List r5} : 2 ≤ ks.length → ks.length ≤ 4 → (∀ k ∈ ks, H5 d k) → H5 (d + 1) ⟨7, [], [], 0, 0, ks⟩
 | or {d : Nat} {ks : List r5} : 2 ≤ ks.length → ks.length ≤ 4 → (∀ k ∈ ks, H5 d k) → H5 (d + 1) ⟨8, [], [], 0, 0, ks⟩
 | less {d : Nat} {a b : r5} : H5 d a → H5 d b → H5 (d + 1) ⟨9, [], [], 0, 0, [a, b]⟩
 | times {d : Nat} {n : Int} {k : r5} : 2 ≤ n → n ≤ 9 → H5 d k → H5 (d + 1) ⟨10, [], [], n, 0, [k]⟩
theorem H5.more : ∀ {d e : Nat} {q : r5}, H5 d q → d ≤ e → H5 e q
 | 0, _, _, h, _ => by cases h
 | d + 1, 0, _, _, he => by omega
 | d + 1, e + 1, q, h, he => by
  cases h with
  | leaf h => exact .leaf h
  | and h1 h2 h3 => exact .and h1 h2 fun k hk => H5.more (h3 k hk) (by omega)
  | or h1 h2 h3 => exact .or h1 h2 fun k hk => H5.more (h3 k hk) (by omega)
  | less h1 h2 => exact .less (h1.more (by omega)) (h2.more (by omega))
  | times h1 h2 h3 => exact .times h1 h2 (h3.more (by omega))
theorem a5f {s : k6} (h : C4 s = true) : (s == ([] : k6)) = false := by
 cases s with
 | nil => exact absurd h (by decide)
 | cons x r => rfl
theorem I2 {a b : Int} (h : a ≤ b) : decide (a ≤ b) = true := c7 h
theorem b5M (F : Nat) (deep : Nat) {q : r5} (h : a3i q) (hd : 1 ≤ deep) : G9 (F + 1) q (deep : Int) = some true := by
 rw [G9]
 dsimp only
 cases h with
 | all =>
  rw [show P1 1 = true from rfl, show u4 1 = ⟨false, 0, 0, 0, 0, false, 0, 0⟩ from rfl, c6 (show ¬((deep : Int) < 1) by omega)]
  rfl
 | @term f w hf hw =>
  rw [show P1 2 = true from rfl, show u4 2 = ⟨true, 1, 1, 0, 0, false, 0, 0⟩ from rfl, c6 (show ¬((deep : Int) < 1) by omega), a5f hf, H8, hf]
  simp only [M4, a8, A1, l4, List.length_nil, j8, List.getElem?_cons_zero, H8, hw]
  rfl
 | @phrase f ws n hf h1 h2 hw h3 h4 =>
  rw [show P1 3 = true from rfl, show u4 3 = ⟨true, 2, 4, 0, 5, false, 0, 0⟩ from rfl, c6 (show ¬((deep : Int) < 1) by omega), a5f hf, H8, hf]
  simp only [M4, a8]
  rw [I2 (show (2 : Int) ≤ ws.length by omega), I2 (show (ws.length : Int) ≤ 4 by omega), I2 h3, I2 h4, T1 (p := fun _ => true) (xs := ws) (fun i x hx => ?_) ws.length 0 (by omega)]
  ·simp; rfl
  ·rw [j8, hx, a8, H8, hw x (j7 hx)]; rfl
 | @near f w n hf hw h1 h2 =>
  rw [show P1 4 = true from rfl, show u4 4 = ⟨true, 1, 1, 1, 2, false, 0, 0⟩ from rfl, c6 (show ¬((deep : Int) < 1) by omega), a5f hf, H8, hf]
  simp only [M4, a8, A1, l4, List.length_nil, j8, List.getElem?_cons_zero, H8, hw, I2 h1, I2 h2]
  rfl
 | @glob f p hf hp hn =>
  rw [show P1 5 = true from rfl, show u4 5 = ⟨true, 1, 1, 0, 0, false, 0, 0⟩ from rfl, c6 (show ¬((deep : Int) < 1) by omega), a5f hf, H8, hf]
  simp only [M4, a8, A1, l4, List.length_nil, j8, List.getElem?_cons_zero, H8, a7x, hp, hn]
  rfl
 | @range f a b hf h1 h2 h3 h4 =>
  rw [show P1 6 = true from rfl, show u4 6 = ⟨true, 0, 0, 0, 999999999, true, 0, 0⟩ from rfl, c6 (show ¬((deep : Int) < 1) by omega), a5f hf, H8, hf]
  simp only [M4, a8, I2 h1, I2 h2, I2 h3, I2 h4]
  rfl
theorem b1V : ∀ {d : Nat} {q : r5}, H5 d q → ∀ (F deep : Nat), d ≤ deep → deep ≤ 1000 → d < F → G9 F q (deep : Int) = some true
 | 0, _, h, _, _, _, _, _ => by cases h
 | d + 1, q, h, F, deep, h1, h2, hF => by
  obtain ⟨F, rfl⟩ : ∃ G, F = G + 1 := ⟨F - 1, by omega⟩
  have kid : ∀ k, H5 d k → G9 F k (u6 ((deep : Int) - 1)) = some true := fun k hk => by
   rw [W6 (by omega) (by omega)]
   exact b1V hk F (deep - 1) (by omega) (by omega) (by omega)
  cases h with
  | leaf h => exact b5M F deep h (by omega)
  | @and _ ks h3 h4 h5 =>
   rw [G9]
   dsimp only
   rw [show P1 7 = true from rfl, show u4 7 = ⟨false, 0, 0, 0, 0, false, 2, 4⟩ from rfl, c6 (show ¬((deep : Int) < 1) by omega)]
   simp only [M4, a8]
   rw [I2 (show (2 : Int) ≤ ks.length by omega), I2 (show (ks.length : Int) ≤ 4 by omega), T1 (p := fun _ => true) (xs := ks) (fun i x hx => ?_) ks.length 0 (by omega)]
   ·simp [A1]
   ·rw [j8, hx, a8, kid x (h5 x (j7 hx))]; rfl
  | @or _ ks h3 h4 h5 =>
   rw [G9]
   dsimp only
   rw [show P1 8 = true from rfl, show u4 8 = ⟨false, 0, 0, 0, 0, false, 2, 4⟩ from rfl, c6 (show ¬((deep : Int) < 1) by omega)]
   simp only [M4, a8]
   rw [I2 (show (2 : Int) ≤ ks.length by omega), I2 (show (ks.length : Int) ≤ 4 by omega), T1 (p := fun _ => true) (xs := ks) (fun i x hx => ?_) ks.length 0 (by omega)]
   ·simp [A1]
   ·rw [j8, hx, a8, kid x (h5 x (j7 hx))]; rfl
  | @less _ a b h3 h4 =>
   rw [G9]
   dsimp only
   rw [show P1 9 = true from rfl, show u4 9 = ⟨false, 0, 0, 0, 0, false, 2, 2⟩ from rfl, c6 (show ¬((deep : Int) < 1) by omega)]
   simp only [M4, a8]
   rw [T1 (p := fun _ => true) (xs := [a, b]) (fun i x hx => ?_) [a, b].length 0 (by omega)]
   ·rfl
   ·have hx' : H5 d x := by
     have := j7 hx
     simp only [List.mem_cons, List.not_mem_nil, or_false] at this
     rcases this with rfl | rfl
     ·exact h3
     ·exact h4
    rw [j8, hx, a8, kid x hx']; rfl
  | @times _ n k h3 h4 h5 =>
   rw [G9]
   dsimp only
   rw [show P1 10 = true from rfl, show u4 10 = ⟨false, 0, 0, 2, 9, false, 1, 1⟩ from rfl, c6 (show ¬((deep : Int) < 1) by omega)]
   simp only [M4, a8, I2 h3, I2 h4]
   rw [T1 (p := fun _ => true) (xs := [k]) (fun i x hx => ?_) [k].length 0 (by omega)]
   ·rfl
   ·have hx' : H5 d x := by
     have := j7 hx
     simp only [List.mem_cons, List.not_mem_nil, or_false] at this
     rw [this]; exact h5
    rw [j8, hx, a8, kid x hx']; rfl
theorem b0s (F : Nat) {d : Nat} {q : r5} (h : H5 d q) (hd : d ≤ 4) (hF : 10 < F) : U5 F q = some true := by
 unfold U5
 have := b1V h F 4 hd (by omega) (by omega)
 rw [show ((4 : Nat) : Int) = 4 from rfl] at this
 rw [this]; rfl
end Go.Fk
set_option linter.unusedVariables false
namespace Go.Fk
open Go
def okN (n : Int) : Bool := decide (0 ≤ n) && decide (n ≤ 999999999)
def upQ (l : List Int) : Bool := a1D okN (fun a b => decide (a < b)) l && decide ((l.length : Int) ≤ 60)
theorem b5F (F : Nat) (l : List Int) (hl : l.length < 9000000000000000000) : a2s F l = some (upQ l) := by
 unfold a2s upQ
 rw [a3S (ok := okN) (lt := fun a b => decide (a < b)) (fun i x hx => ?_)]
 ·cases a1D okN (fun a b => decide (a < b)) l <;> rfl
 ·have hi := (d5.1 hx).1
  rw [j8, hx, a8, M4, a8]
  unfold okN
  cases (decide (0 ≤ x) && decide (x ≤ 999999999)) with
  | false => rfl
  | true =>
   rw [l5, g8, l7]
   by_cases h0 : i = 0
   ·subst h0; rfl
   ·rw [c7 (show (0 : Int) < (i : Int) by omega), i4, W6 (by omega) (by omega), j8, i8 (show i - 1 < l.length by omega), a8, a8, c6 h0, Bool.false_or]
    show _ = some (if decide (l[i - 1] < x) = true then _ else _)
    rw [show decide (x ≤ l[i - 1]) = !decide (l[i - 1] < x) by rw [a6Q]; simp]
    cases decide (l[i - 1] < x) <;> rfl
structure UpL (l : List Int) : Prop where
 asc : ∀ i j, (hi : i < l.length) → (hj : j < l.length) → i < j → l[i] < l[j]
 rng : ∀ x ∈ l, 0 ≤ x ∧ x ≤ 999999999
 few : l.length ≤ 60
theorem b7Q {l : List Int} (h : upQ l = true) : UpL l := by
 simp only [upQ, l6, decide_eq_true_eq] at h
 obtain ⟨h1, h2⟩ := h
 obtain ⟨k1, k2⟩ := a3b h1
 refine ⟨fun i j hi hj hij => ?_, fun x hx => by simpa [okN] using k1 x hx, by omega⟩
 obtain ⟨d, rfl⟩ : ∃ d, j = i + 1 + d := ⟨j - (i + 1), by omega⟩
 clear hij
 induction d with
 | zero => simpa using k2 i hj
 | succ d ih =>
  have := ih (by omega)
  have k := k2 (i + 1 + d) hj
  simp only [decide_eq_true_eq] at k
  exact Int.lt_trans this k
def a7F (l : List Int) (n : Int) : Option Int := l.find? fun x => decide (n ≤ x)
theorem b4F (F : Nat) (l : List Int) (n : Int) (hu : UpL l) (hF : 100 < F) :
  ∃ (k : Nat) (b : Bool), I1 F l n = some ((k : Int), b) ∧ k ≤ l.length ∧ (∀ t, (h : t < l.length) → t < k → l[t] < n) ∧ ∀ t, (h : t < l.length) → k ≤ t → n ≤ l[t] := by
 have hf := hu.few
 unfold I1
 obtain ⟨t, ht, k, rfl, h1, h2, h3⟩ := H4 (σ := Int × Int) (τ := Int) (f := fun (s14 : Int × Int) => (cond (decide (s14.1 < s14.2)) (Option.bind (nnI (u6 (s14.1 + s14.2))) fun x29 => (Option.bind (b2h x29 (1 : Int)) fun x32 => (Option.bind (n5 l x32) fun x35 => (Option.bind (U3 F x35 n) fun r45 => (cond r45 (some (.inl ((u6 (x32 + (1 : Int))), s14.2))) (some (.inl (s14.1, x32)))))))) (some (.inr s14.1))))
  (Post := fun t => ∃ k : Nat, t = (k : Int) ∧ k ≤ l.length ∧ (∀ t, (h : t < l.length) → t < k → l[t] < n) ∧ ∀ t, (h : t < l.length) → k ≤ t → n ≤ l[t])
  (fun c s => ∃ i j : Nat, s = ((i : Int), (j : Int)) ∧ i ≤ j ∧ j ≤ l.length ∧ j - i ≤ l.length - c ∧ (∀ t, (h : t < l.length) → t < i → l[t] < n) ∧ ∀ t, (h : t < l.length) → j ≤ t → n ≤ l[t]) (l.length + 1)
  (fun c s _ hI => by
   obtain ⟨i, j, rfl, h1, h2, h3, h4, h5⟩ := hI
   by_cases hij : i < j
   ·left
    have hm : (i + j) / 2 < l.length := by omega
    have e1 : nnI (u6 ((i : Int) + (j : Int))) = some ((i + j : Nat) : Int) := by rw [y8 ⟨by omega, by omega⟩, nnI, if_pos (by omega)]; rfl
    have e2 : b2h ((i + j : Nat) : Int) 1 = some (((i + j) / 2 : Nat) : Int) := by
     unfold b2h
     rw [if_neg (by omega)]
     show some (Int.fdiv ((i + j : Nat) : Int) 2) = _
     rw [Int.fdiv_eq_ediv_of_nonneg _ (by omega)]; rfl
    have e3 : U3 F l[(i + j) / 2] n = some (decide (l[(i + j) / 2] < n)) := by
     unfold U3 Y4
     simp
    dsimp only
    rw [c7 (by omega), i4, e1, a8, e2, a8, a0X hm, a8, e3, a8]
    by_cases hlt : l[(i + j) / 2] < n
    ·refine ⟨(((i + j) / 2 + 1 : Nat) , (j : Int)), ?_, (i + j) / 2 + 1, j, rfl, by omega, h2, by omega, fun t ht htm => ?_, h5⟩
     ·rw [c7 hlt, i4, s4 (by omega)]
     ·rcases Nat.lt_or_ge t ((i + j) / 2) with h | h
      ·exact Int.lt_trans (hu.asc t _ ht hm h) hlt
      ·obtain rfl : t = (i + j) / 2 := by omega
       exact hlt
    ·refine ⟨((i : Int), (((i + j) / 2 : Nat) : Int)), ?_, i, (i + j) / 2, rfl, by omega, by omega, by omega, h4, fun t ht htm => ?_⟩
     ·rw [c6 hlt, g8]
     ·rcases Nat.lt_or_ge ((i + j) / 2) t with h | h
      ·exact Int.le_of_lt (Int.lt_of_le_of_lt (Int.not_lt.1 hlt) (hu.asc _ t hm ht h))
      ·obtain rfl : t = (i + j) / 2 := by omega
       exact Int.not_lt.1 hlt
   ·right
    refine ⟨(i : Int), ?_, i, rfl, by omega, h4, fun t ht hti => h5 t ht (by omega)⟩
    dsimp only
    rw [c6 (by omega), g8])
  (fun s hI => by
   obtain ⟨i, j, rfl, h1, h2, h3, h4, h5⟩ := hI
   refine ⟨(i : Int), ?_, i, rfl, by omega, h4, fun t ht hti => h5 t ht (by omega)⟩
   dsimp only
   rw [c6 (by omega), g8]) (l.length + 1) 0 ((0 : Int), (l.length : Int)) F (by omega) (by omega)
  ⟨0, l.length, rfl, Nat.zero_le _, Nat.le_refl _, by omega, fun t _ h => by omega, fun t h h' => by omega⟩
 rw [ht, a8, a8]
 by_cases hk : k < l.length
 ·rw [c7 (by omega), i4, a0X hk, a8]
  cases (l[k] == n)
  ·rw [g8, a8]
   unfold R4
   rw [beq_self_eq_true, a8]
   exact ⟨k, false, rfl, h1, h2, h3⟩
  ·exact ⟨k, true, rfl, h1, h2, h3⟩
 ·rw [c6 (by omega), g8]
  exact ⟨k, false, rfl, h1, h2, h3⟩
theorem b6R (F : Nat) (l : List Int) (n : Int) (hu : UpL l) (hF : 100 < F) : a2t F l n = some ((a7F l n).elim (0, false) fun x => (x, true)) := by
 obtain ⟨k, b, hs, h1, h2, h3⟩ := b4F F l n hu hF
 unfold a2t a7F
 rw [hs, a8]
 dsimp only
 by_cases hk : k = l.length
 ·rw [beq_iff_eq.2 (by omega), i4, List.find?_eq_none.2 fun x hx => ?_]
  ·rfl
  ·obtain ⟨i, hi, rfl⟩ := List.mem_iff_getElem.1 hx
   have := h2 i hi (by omega)
   simp; omega
 ·have hk' : k < l.length := by omega
  have hf : l.find? (fun x => decide (n ≤ x)) = some l[k] := List.find?_eq_some_iff_getElem.2 ⟨by simpa using h3 k hk' (Nat.le_refl _), k, hk', rfl, fun j hj => by have := h2 j (by omega) hj; simp; omega⟩
  rw [beq_eq_false_iff_ne.2 (by omega), g8, a0X hk', a8, hf]
  rfl
def a0m : List (List Int) → Int → Int → Bool
 | [], last, b => decide (last ≤ b)
 | l :: r, last, b => l.any fun x => decide (last < x) && a0m r x b
theorem b4g : ∀ (r : List (List Int)) {x y b : Int}, x ≤ y → a0m r y b = true → a0m r x b = true
 | [], x, y, b, h, e => by simp only [a0m, decide_eq_true_eq] at e ⊢; omega
 | l :: r, x, y, b, h, e => by
  simp only [a0m, List.any_eq_true, l6, decide_eq_true_eq] at e ⊢
  obtain ⟨z, hz, h1, h2⟩ := e
  exact ⟨z, hz, by omega, h2⟩
theorem b4h {l : List Int} (hu : UpL l) (r : List (List Int)) (last b : Int) : a0m (l :: r) last b = (a7F l (last + 1)).elim false fun x => a0m r x b := by
 unfold a7F
 cases hf : l.find? fun x => decide (last + 1 ≤ x) with
 | none =>
  have := List.find?_eq_none.1 hf
  simp only [Option.elim, a0m]
  rw [Bool.eq_false_iff]
  intro h
  simp only [List.any_eq_true, l6, decide_eq_true_eq] at h
  obtain ⟨x, hx, h1, _⟩ := h
  have := this x hx
  simp at this; omega
 | some m =>
  obtain ⟨h1, k, hk, rfl, h2⟩ := List.find?_eq_some_iff_getElem.1 hf
  simp only [decide_eq_true_eq] at h1
  simp only [Option.elim]
  rw [Bool.eq_iff_iff]
  simp only [a0m, List.any_eq_true, l6, decide_eq_true_eq]
  constructor
  ·rintro ⟨x, hx, h3, h4⟩
   obtain ⟨i, hi, rfl⟩ := List.mem_iff_getElem.1 hx
   refine b4g r ?_ h4
   rcases Nat.lt_trichotomy k i with h | h | h
   ·exact Int.le_of_lt (hu.asc k i hk hi h)
   ·subst h; exact Int.le_refl _
   ·have := h2 i h
    simp at this; omega
  ·intro h
   exact ⟨l[k], List.getElem_mem hk, by omega, h⟩
def a5a (s : Int × Bool) (l : List Int) : Int × Bool := ((a7F l (u6 (s.1 + 1))).elim 0 id, s.2 && (a7F l (u6 (s.1 + 1))).isSome)
theorem a9H : ∀ (r : List (List Int)) (x : Int), (r.foldl a5a (x, false)).2 = false
 | [], x => rfl
 | l :: r, x => by rw [List.foldl_cons]; exact a9H r _
theorem b0b (b : Int) : ∀ (r : List (List Int)) (x : Int), (∀ l ∈ r, UpL l) → 0 ≤ x → x ≤ 999999999 → ((r.foldl a5a (x, true)).2 && decide ((r.foldl a5a (x, true)).1 ≤ b)) = a0m r x b
 | [], x, _, _, _ => by rw [List.foldl_nil, l7, a0m]
 | l :: r, x, hu, h0, h1 => by
  rw [List.foldl_cons, b4h (hu l (.head _))]
  have hw : u6 (x + 1) = x + 1 := y8 ⟨by omega, by omega⟩
  cases hn : a7F l (x + 1) with
  | none =>
   have e : a5a (x, true) l = (0, false) := by
    unfold a5a
    dsimp only
    rw [hw, hn]; rfl
   rw [e, a9H]; rfl
  | some m =>
   have hm := (hu l (.head _)).rng m (List.mem_of_find?_eq_some hn)
   have e : a5a (x, true) l = (m, true) := by
    unfold a5a
    dsimp only
    rw [hw, hn]; rfl
   rw [e]
   exact b0b b r m (fun q hq => hu q (.tail _ hq)) hm.1 hm.2
def a3m (lists : List (List Int)) (slop : Int) : List Int :=
 if lists.all upQ && (decide (1 ≤ (lists.length : Int)) && decide ((lists.length : Int) ≤ 6)) && (decide (0 ≤ slop) && decide (slop ≤ 5)) then (lists.headD []).filter fun p => a0m lists.tail p (p + lists.length - 1 + slop) else []
theorem b9N {α : Type} {ws : List α} {p : α → Bool} {f : Nat → List α → Option (List α)} (hl : ws.length ≤ 1000)
  (h : ∀ (i : Nat) w (out : List α), ws[i]? = some w → out.length ≤ 1000 → f i out = some (if p w then out ++ [w] else out)) : W1 f ws.length 0 [] = some (ws.filter p) := b9M hl h
theorem a9S (F : Nat) (lists : List (List Int)) (slop : Int) (hl : ∀ l ∈ lists, l.length ≤ 1000) (hn : lists.length ≤ 1000) (hF : 2000 < F) : Y5 F lists slop = some (a3m lists slop) := by
 unfold Y5 a1o a1L a3m
 cases hne : lists with
 | nil => rfl
 | cons l0 r =>
  rw [← hne, c7 (by rw [hne]; simp only [l4]; omega), i4, T1 (p := upQ) (xs := lists) (fun i x hx => ?_) lists.length 0 (by omega), List.drop_zero]
  ·cases ha : lists.all upQ with
   | false => rfl
   | true =>
    have hup : ∀ l ∈ lists, UpL l := fun l hlm => b7Q (List.all_eq_true.1 ha l hlm)
    simp only [if_true, a8, Sum.elim_inl, l7]
    rw [c7 (show (1 : Int) ≤ (lists.length : Int) by rw [hne]; simp only [l4]; omega), l7]
    by_cases h6 : (lists.length : Int) ≤ 6
    ·rw [c7 h6, l5, g8, M4, a8, a8, l7]
     cases hs : (decide (0 ≤ slop) && decide (slop ≤ 5)) with
     | false => rfl
     | true =>
      simp only [l6, decide_eq_true_eq] at hs
      rw [l5, g8, if_pos rfl]
      have hg : n5 lists (0 : Int) = some l0 := by rw [hne]; rfl
      have hm0 : l0 ∈ lists := by rw [hne]; exact .head _
      have htl : a2O lists 1 (lists.length : Int) = some r := by
       rw [hne]
       unfold a2O
       rw [if_pos ⟨by omega, by simp only [l4]; omega, by omega⟩]
       simp
      rw [hg, a8, b9N (p := fun p => a0m r p (p + lists.length - 1 + slop)) (hl l0 hm0) (fun i w out hw ho => ?_)]
      ·rw [hne]; rfl
      ·have hwm := j7 hw
       have hwr := (hup l0 hm0).rng w hwm
       rw [j8, hw, a8, htl, a8, a5i (xs := r) a5a (fun j x s hx => ?_), a8, a8]
       ·have hb : u6 (u6 (u6 (w + (lists.length : Int)) - 1) + slop) = w + lists.length - 1 + slop := by
         rw [y8 (n := w + (lists.length : Int)) ⟨by omega, by omega⟩, y8 (n := w + (lists.length : Int) - 1) ⟨by omega, by omega⟩, y8 ⟨by omega, by omega⟩]
        have hff := b0b (w + lists.length - 1 + slop) r w (fun l h => hup l (by rw [hne]; exact .tail _ h)) hwr.1 hwr.2
        rw [hb, ← hff]
        cases (r.foldl a5a (w, true)).2
        ·rfl
        ·rw [i4, a8, l7, G7 (by simp only [k5]; omega)]
         cases decide ((r.foldl a5a (w, true)).1 ≤ w + lists.length - 1 + slop) <;> rfl
       ·have hxu := hup x (by rw [hne]; exact .tail _ (j7 hx))
        rw [j8, hx, a8, b6R F x _ hxu (by omega), a8]
        unfold a5a
        cases a7F x (u6 (s.1 + 1)) <;> cases s.2 <;> rfl
    ·rw [c6 h6]; rfl
  ·rw [j8, hx, a8, b5F F x (by have := hl x (j7 hx); omega), a8]
   cases upQ x <;> rfl
end Go.Fk
set_option linter.unusedVariables false
namespace Go.Fk
open Go
def a6Y (a b : k6) : Nat → Nat → Int
 | 0, j => (j : Int)
 | i + 1, 0 => ((i + 1 : Nat) : Int)
 | i + 1, j + 1 =>
  let c := a6Y a b i j + if a[i]? = b[j]? then 0 else 1
  let u := a6Y a b i (j + 1) + 1
  let v := a6Y a b (i + 1) j + 1
  if v < (if u < c then u else c) then v else (if u < c then u else c)
def a9R (a b : k6) : Int := a6Y a b a.length b.length
def a4q (a b : k6) (i j : Nat) (v : Int) : Prop := 0 ≤ v ∧ v ≤ (i : Int) + j ∧ v = a6Y a b i j
theorem b1F (a b : k6) (j : Nat) : a4q a b 0 j (j : Int) := ⟨by omega, by omega, by rw [a6Y]⟩
theorem b1E (a b : k6) (i : Nat) : a4q a b (i + 1) 0 ((i + 1 : Nat) : Int) := ⟨by omega, by omega, by rw [a6Y]⟩
theorem b0a {a b : k6} {i j : Nat} {x y : UInt8} {c u v : Int} (hi : a[i]? = some x) (hj : b[j]? = some y) (hc : a4q a b i j c) (hu : a4q a b i (j + 1) u) (hv : a4q a b (i + 1) j v) :
  a4q a b (i + 1) (j + 1) (if v + 1 < (if u + 1 < (c + if x = y then 0 else 1) then u + 1 else (c + if x = y then 0 else 1)) then v + 1 else (if u + 1 < (c + if x = y then 0 else 1) then u + 1 else (c + if x = y then 0 else 1))) := by
 have h1 := hc.1; have h2 := hu.1; have h3 := hv.1
 have k1 := hc.2.1; have k2 := hu.2.1; have k3 := hv.2.1
 have hxy : (if a[i]? = b[j]? then (0 : Int) else 1) = if x = y then 0 else 1 := by
  rw [hi, hj]
  by_cases h : x = y
  ·rw [if_pos h, if_pos (by rw [h])]
  ·rw [if_neg h, if_neg (by simpa using h)]
 refine ⟨?_, ?_, ?_⟩
 ·split <;> split at * <;> split at * <;> omega
 ·split <;> split at * <;> split at * <;> omega
 ·rw [a6Y, hxy, ← hc.2.2, ← hu.2.2, ← hv.2.2]
theorem b5L (F : Nat) (a b : k6) (ha : C4 a = true) (hb : C4 b = true) (hF : 100 < F) : U4 F a b = some (a9R a b) := by
 have la := Q4 ha
 have lb := Q4 hb
 unfold U4
 rw [H8, ha, a8, l5, g8, H8, hb, a8, l5, a8, g8, s4 (by omega)]
 unfold b0l
 rw [if_pos ⟨by omega, by omega⟩, a8, Int.toNat_natCast]
 -- the first row
 have key0 := fun f step => a3M (σ := List Int) (f := f) (fun k row => row.length = b.length + 1 ∧ ∀ j, j < k → row[j]? = some (j : Int)) (List.replicate (b.length + 1) (0 : Int)).length step (List.replicate (b.length + 1) (0 : Int)).length 0 (List.replicate (b.length + 1) (0 : Int)) (by omega) ⟨by simp, fun j h => by omega⟩
 generalize hf0 : (fun (i55 : Nat) (s51 : (List Int)) => _ : Nat → List Int → Option (List Int)) = f0
 obtain ⟨row0, hr0, hl0, hv0⟩ := key0 f0 (fun i s hi hs => by
  subst hf0
  obtain ⟨h1, h2⟩ := hs
  simp only [List.length_replicate] at hi
  dsimp only
  rw [j8, i8 (show i < s.length by omega), a8, Int.toNat_natCast]
  refine ⟨_, rfl, by simp [h1], fun j hj => ?_⟩
  rw [List.getElem?_set]
  by_cases hij : i = j
  ·subst hij; rw [if_pos rfl, if_pos (by omega)]
  ·rw [if_neg hij]; exact h2 j (by omega))
 simp only [List.length_replicate] at hr0 hv0
 rw [List.length_replicate, hr0, a8, a8]
 -- the rows
 have key := fun f step fin => H4 (σ := Int × List Int) (τ := List Int) (f := f) (Post := fun t => ∃ v, t[b.length]? = some v ∧ a4q a b a.length b.length v)
  (fun i s => s.1 = ((i + 1 : Nat) : Int) ∧ s.2.length = b.length + 1 ∧ ∀ j, j ≤ b.length → ∃ v, s.2[j]? = some v ∧ a4q a b i j v) a.length step fin a.length 0 ((1 : Int), row0) F (by omega) (by omega)
  ⟨rfl, hl0, fun j hj => ⟨(j : Int), hv0 j (by omega), b1F a b j⟩⟩
 generalize hf : (fun (s91 : Int × (List Int)) => _ : Int × List Int → Option ((Int × List Int) ⊕ (List Int))) = f
 obtain ⟨t, ht, v, hv, hp⟩ := key f (fun i s hi hs => by
  subst hf
  obtain ⟨s1, row⟩ := s
  obtain ⟨h1, h2, h3⟩ := hs
  simp only at h1 h2 h3
  subst h1
  dsimp only
  obtain ⟨c0, hc0, hc0p⟩ := h3 0 (by omega)
  rw [c7 (by omega), i4, show (0 : Int) = ((0 : Nat) : Int) from rfl, j8, hc0, a8, a8, Int.toNat_natCast]
  have key2 := fun g step2 fin2 => H4 (σ := Int × Int × List Int) (τ := List Int) (f := g) (Post := fun t => t.length = b.length + 1 ∧ ∀ j, j ≤ b.length → ∃ v, t[j]? = some v ∧ a4q a b (i + 1) j v)
   (fun k s => s.2.1 = ((k + 1 : Nat) : Int) ∧ a4q a b i k s.1 ∧ s.2.2.length = b.length + 1 ∧ (∀ j, j ≤ k → ∃ v, s.2.2[j]? = some v ∧ a4q a b (i + 1) j v) ∧ ∀ j, k < j → j ≤ b.length → ∃ v, s.2.2[j]? = some v ∧ a4q a b i j v)
   b.length step2 fin2 b.length 0 (c0, (1 : Int), row.set 0 ((i + 1 : Nat) : Int)) F (by omega) (by omega)
   ⟨rfl, hc0p, by simp [h2], fun j hj => ⟨((i + 1 : Nat) : Int), by
    have : j = 0 := by omega
    subst this
    rw [List.getElem?_set, if_pos rfl, if_pos (by omega)], by
    have : j = 0 := by omega
    subst this
    exact b1E a b i⟩, fun j hj hj2 => by
    obtain ⟨v, hv, hp⟩ := h3 j hj2
    exact ⟨v, by simp only; rw [List.getElem?_set, if_neg (by omega)]; exact hv, hp⟩⟩
  generalize hg : (fun (s139 : Int × Int × (List Int)) => _ : Int × Int × List Int → Option ((Int × Int × List Int) ⊕ (List Int))) = g
  obtain ⟨t, ht, hp1, hp2⟩ := key2 g (fun k s hk hs => by
   subst hg
   obtain ⟨cr, s1, row⟩ := s
   obtain ⟨q1, q2, q3, q4, q5⟩ := hs
   simp only at q1 q2 q3 q4 q5
   subst q1
   dsimp only
   have hax : a[i]? = some a[i] := i8 hi
   have hbx : b[k]? = some b[k] := i8 hk
   obtain ⟨u, hu, hup⟩ := q5 (k + 1) (by omega) (by omega)
   obtain ⟨w, hw, hwp⟩ := q4 k (by omega)
   have e1 : u6 (((i + 1 : Nat) : Int) - 1) = (i : Int) := by rw [y8 ⟨by omega, by omega⟩]; omega
   have e2 : u6 (((k + 1 : Nat) : Int) - 1) = (k : Int) := by rw [y8 ⟨by omega, by omega⟩]; omega
   have b1 := q2.1; have b2 := q2.2.1; have b3 := hup.1; have b4 := hup.2.1; have b5 := hwp.1; have b6 := hwp.2.1
   rw [c7 (by omega), i4, e1, e2, j8, hax, a8, j8, hbx, a8]
   have hcost : (cond (!(a[i] == b[k])) (some (u6 (cr + (1 : Int)))) (some cr) : Option Int) = some (cr + if a[i] = b[k] then 0 else 1) := by
    by_cases h : a[i] = b[k]
    ·rw [if_pos h, show (a[i] == b[k]) = true from beq_iff_eq.2 h]; simp
    ·rw [if_neg h, beq_eq_false_iff_ne.2 h, y8 ⟨by omega, by omega⟩]; rfl
   rw [hcost, a8, j8, hu, a8, a8, j8, hw, a8, a8, s4 (by omega), y8 (n := u + 1) ⟨by omega, by omega⟩, y8 (n := w + 1) ⟨by omega, by omega⟩, Int.toNat_natCast]
   have hst := b0a hax hbx q2 hup hwp
   refine .inl ⟨_, rfl, rfl, hup, by simp [q3], fun j hj => ?_, fun j hj hj2 => ?_⟩
   ·simp only
    rw [List.getElem?_set]
    by_cases hjk : k + 1 = j
    ·subst hjk
     rw [if_pos rfl, if_pos (by omega)]
     exact ⟨_, rfl, hst⟩
    ·rw [if_neg hjk]
     exact q4 j (by omega)
   ·simp only
    rw [List.getElem?_set, if_neg (by omega)]
    exact q5 j (by omega) hj2) (fun s hs => by
   subst hg
   obtain ⟨cr, s1, row⟩ := s
   obtain ⟨q1, q2, q3, q4, q5⟩ := hs
   simp only at q1 q2 q3 q4 q5
   subst q1
   dsimp only
   rw [c6 (by omega), g8]
   exact ⟨_, rfl, q3, q4⟩)
  have ht' : r4 g F (c0, (1 : Int), row.set 0 ((i + 1 : Nat) : Int)) = some t := ht
  rw [ht', a8, a8, s4 (by omega)]
  exact .inl ⟨_, rfl, rfl, hp1, hp2⟩) (fun s hs => by
  subst hf
  obtain ⟨s1, row⟩ := s
  obtain ⟨h1, h2, h3⟩ := hs
  simp only at h1 h2 h3
  subst h1
  dsimp only
  rw [c6 (by omega), g8]
  exact ⟨_, rfl, h3 b.length (Nat.le_refl _)⟩)
 rw [ht, a8, a8, j8, hv]
 rw [hp.2.2]; rfl
theorem a8w (a b : k6) : ∀ i j : Nat, 0 ≤ a6Y a b i j ∧ a6Y a b i j ≤ (i : Int) + j
 | 0, j => by rw [a6Y]; omega
 | i + 1, 0 => by rw [a6Y]; omega
 | i + 1, j + 1 => by
  have h1 := a8w a b i j
  have h2 := a8w a b i (j + 1)
  have h3 := a8w a b (i + 1) j
  rw [a6Y]
  split <;> split <;> split <;> omega
end Go.Fk
