/-
  Fractions: the program's and the reference's greatest common divisors, lowest terms, and so many times a fraction.
-/
import Derived.Test.YtmkhlppjphodfaaGreatDoorLawBase
set_option linter.unusedVariables false
set_option maxRecDepth 100000
namespace Go.Fk
open Go
theorem b2A (m n : Nat) : ((m : Int)).tmod (n : Int) = ((m % n : Nat) : Int) := by rw [← Int.ofNat_tmod]
theorem a3g (m n : Nat) : ((m : Int)).tdiv (n : Int) = ((m / n : Nat) : Int) := by rw [← Int.ofNat_tdiv]
theorem b4i {f : Int × Int → Option ((Int × Int) ⊕ Int)} (hf : f = fun (s11 : Int × Int) => (cond (!(s11.2 == (0 : Int))) (Option.bind (a40 s11.1 s11.2) fun x26 => (some (.inl (s11.2, x26)))) (some (.inr s11.1)))) : ∀ (n m F : Nat), n < F → r4 f F ((m : Int), (n : Int)) = some ((Nat.gcd m n : Nat) : Int) := by
 intro n
 induction n using Nat.strongRecOn with
 | _ n ih =>
  intro m F hF
  obtain ⟨F, rfl⟩ : ∃ G, F = G + 1 := ⟨F - 1, by omega⟩
  rw [r4]
  by_cases h : n = 0
  ·subst h
   rw [hf]; simp
  ·have h1 : f ((m : Int), (n : Int)) = some (.inl ((n : Int), ((m % n : Nat) : Int))) := by
    rw [hf]
    dsimp only
    rw [beq_eq_false_iff_ne.2 (by omega), Bool.not_false, i4]
    unfold a40
    rw [if_neg (by omega), a8, b2A]
   have hlt : m % n < n := Nat.mod_lt _ (by omega)
   rw [h1]
   show r4 f F _ = _
   rw [ih (m % n) hlt n F (by omega), Nat.gcd_comm n, ← Nat.gcd_rec, Nat.gcd_comm]
theorem b1M (F : Nat) (m n : Nat) (hm : m ≤ 1000000000000) (hn : n ≤ 1000000000000) (hF : n < F) : U8 F (m : Int) (n : Int) = some ((Nat.gcd m n : Nat) : Int) := by
 unfold U8
 rw [b4i rfl n m F hF, a8, a8]
 have hg : Nat.gcd m n ≤ 1000000000000 := by
  by_cases h : m = 0
  ·subst h; rw [Nat.gcd_zero_left]; exact hn
  ·exact Nat.le_trans (Nat.gcd_le_left n (by omega)) hm
 rw [y8 ⟨by omega, by omega⟩, if_neg (by omega)]
def a7X (a b : Nat) : Int := ((a / Nat.gcd a b : Nat) : Int)
def a7W (a b : Nat) : Int := ((b / Nat.gcd a b : Nat) : Int)
theorem b0W {a b : Nat} (hb : 0 < b) : 1 ≤ b / Nat.gcd a b := Nat.div_pos (Nat.gcd_le_right a hb) (Nat.gcd_pos_of_pos_right a hb)
theorem b6P {a b : Nat} (hb : 0 < b) : Nat.gcd (a / Nat.gcd a b) (b / Nat.gcd a b) = 1 := Nat.gcd_div_gcd_div_gcd_of_pos_right hb
theorem a7y (F a b : Nat) (ha : a ≤ 1000000000) (hb : 0 < b ∧ b ≤ 1000000000) (hF : 1000000000 < F) : a0R F ⟨a7X a b, a7W a b⟩ = some true := by
 have h1 : a / Nat.gcd a b ≤ a := Nat.div_le_self _ _
 have h2 : b / Nat.gcd a b ≤ b := Nat.div_le_self _ _
 have h3 := b0W (a := a) hb.1
 have h5 := b6P (a := a) hb.1
 unfold a0R a7X a7W
 dsimp only
 generalize a / Nat.gcd a b = x at *
 generalize b / Nat.gcd a b = y at *
 rw [M4, c7 (by omega), c7 (by omega), a8, l7, i4, M4, c7 (by omega), c7 (by omega), a8, l7, i4, b1M F _ _ (by omega) (by omega) (by omega), a8, h5]; rfl
theorem b6Y (F a b : Nat) (ha : a ≤ 1000000000) (hb : 0 < b ∧ b ≤ 1000000000) (hF : 1000000000 < F) : a1J F (a : Int) (b : Int) = some (⟨a7X a b, a7W a b⟩, true) := by
 have h1 : a / Nat.gcd a b ≤ a := Nat.div_le_self _ _
 have h2 : b / Nat.gcd a b ≤ b := Nat.div_le_self _ _
 have hg := Nat.gcd_pos_of_pos_right a hb.1
 unfold a1J a2j
 rw [M4, c7 (by omega), c7 (by omega), a8, l7, l5, g8, M4, c7 (by omega), c7 (by omega), a8, l7, l5, g8, a8, beq_eq_false_iff_ne.2 (by omega), g8, c6 (by omega), g8, a8]
 dsimp only
 rw [b1M F a b (by omega) (by omega) (by omega), a8]
 unfold a1y
 rw [if_neg (by omega), a8, if_neg (by omega), a8, a3g, a3g]
 have := a7y F a b ha hb hF
 unfold a7X a7W at this ⊢
 generalize a / Nat.gcd a b = x at *
 generalize b / Nat.gcd a b = y at *
 rw [y8 ⟨by omega, by omega⟩, y8 ⟨by omega, by omega⟩, this]; rfl
def b0m (a b : Nat) : Nat := a / Nat.gcd a b * 1000 / (b / Nat.gcd a b)
theorem b2N (F a b : Nat) (ha : a ≤ 1000000000) (hb : 0 < b ∧ b ≤ 1000000000) (hF : 1000000000 < F) : Y6 F ⟨a7X a b, a7W a b⟩ 1000 = some ((b0m a b : Nat) : Int) := by
 have h1 : a / Nat.gcd a b ≤ a := Nat.div_le_self _ _
 have h3 := b0W (a := a) hb.1
 have h4 : a / Nat.gcd a b * 1000 / (b / Nat.gcd a b) ≤ a / Nat.gcd a b * 1000 := Nat.div_le_self _ _
 unfold Y6
 rw [a7y F a b ha hb hF, a8, l5, g8, M4, a8, a8]
 unfold a7X a7W b0m
 dsimp only
 generalize a / Nat.gcd a b = x at *
 generalize b / Nat.gcd a b = y at *
 have e : (x : Int) * 1000 = ((x * 1000 : Nat) : Int) := by push_cast; rfl
 rw [e, y8 ⟨by omega, by omega⟩]
 rw [c7 (show (1 : Int) ≤ 1000 by omega), c7 (show (1000 : Int) ≤ 1000 by omega), l7, l5, g8, c7 (by omega), i4]
 unfold a1y
 generalize hz : x * 1000 / y = z at *
 rw [if_neg (by omega), a8, a3g, hz, y8 ⟨by omega, by omega⟩]
def a01 : Nat → Nat → Nat → Nat
 | 0, _, _ => 0
 | k + 1, df, docs => if 2 * df ≤ docs then a01 k (2 * df) docs + 1 else 0
theorem a6y : ∀ k df docs, a01 k df docs ≤ k
 | 0, _, _ => Nat.le_refl _
 | k + 1, df, docs => by
  have := a6y k (2 * df) docs
  unfold a01
  split <;> omega
theorem b1a (df n : Nat) (hn : n ≤ 20) (hdf : df ≤ 16) : b4H (df : Int) (u6 ((n : Int) + 1)) = some ((df * 2 ^ n * 2 : Nat) : Int) := by
 have hp : 2 ^ n ≤ 2 ^ 20 := Nat.pow_le_pow_right (by omega) hn
 have hq : df * 2 ^ n ≤ 16 * 2 ^ 20 := Nat.mul_le_mul hdf hp
 rw [s4 (by omega)]
 unfold b4H
 rw [if_neg (by omega), Int.toNat_natCast, Nat.min_eq_left (by omega), Int.pow_succ, ← Int.mul_assoc]
 have e : (df : Int) * 2 ^ n * 2 = ((df * 2 ^ n * 2 : Nat) : Int) := by push_cast; rfl
 rw [e, y8 ⟨by omega, by omega⟩]
theorem a6k {f : Int → Option (Int ⊕ Int)} (df docs : Nat) (hd : docs ≤ 16) (hdf : df ≤ 16) (hf : f = fun (s75 : Int) => (Option.bind (b4H (df : Int) (u6 (s75 + (1 : Int)))) fun x87 => (cond (decide (x87 ≤ (docs : Int))) (some (.inl (u6 (s75 + (1 : Int))))) (some (.inr s75))))) :
  ∀ (k n F : Nat), docs < df * 2 ^ n * 2 ^ k → k < F → n + k ≤ 10 → r4 f F (n : Int) = some ((n + a01 k (df * 2 ^ n) docs : Nat) : Int)
 | 0, n, F, hk, hF, hn => by
  obtain ⟨F, rfl⟩ : ∃ G, F = G + 1 := ⟨F - 1, by omega⟩
  rw [Nat.pow_zero, Nat.mul_one] at hk
  have h1 : f (n : Int) = some (.inr (n : Int)) := by
   rw [hf]
   dsimp only
   rw [b1a df n (by omega) hdf, a8, c6 (by omega)]; rfl
  rw [r4, h1]; rfl
 | k + 1, n, F, hk, hF, hn => by
  obtain ⟨F, rfl⟩ : ∃ G, F = G + 1 := ⟨F - 1, by omega⟩
  rw [r4]
  by_cases h : 2 * (df * 2 ^ n) ≤ docs
  ·have h1 : f (n : Int) = some (.inl ((n + 1 : Nat) : Int)) := by
    rw [hf]
    dsimp only
    rw [b1a df n (by omega) hdf, a8, c7 (by omega), s4 (by omega)]; rfl
   have e : df * 2 ^ (n + 1) = 2 * (df * 2 ^ n) := by rw [Nat.pow_succ, ← Nat.mul_assoc, Nat.mul_comm 2]
   rw [h1]
   show r4 f F _ = _
   rw [a6k df docs hd hdf hf k (n + 1) F (by rw [e, Nat.mul_comm 2, Nat.mul_assoc, ← Nat.pow_succ']; exact hk) (by omega) (by omega), e]
   rw [a01, if_pos h]
   congr 1; omega
  ·have h1 : f (n : Int) = some (.inr (n : Int)) := by
    rw [hf]
    dsimp only
    rw [b1a df n (by omega) hdf, a8, c6 (by omega)]; rfl
   rw [h1, a01, if_neg h]; rfl
def upN (tf docs df : Nat) : Nat := 22 * tf * (a01 5 df docs + 1)
def a4C (tf long total docs : Nat) : Nat := 10 * tf + 3 + 9 * long * docs / total
structure a2k (tf long total docs df : Nat) : Prop where
 h1 : 1 ≤ tf ∧ tf ≤ 80
 h2 : tf ≤ long ∧ long ≤ 80
 h3 : long ≤ total ∧ total ≤ 1280
 h4 : 1 ≤ docs ∧ docs ≤ 16
 h5 : 1 ≤ df ∧ df ≤ docs
theorem b2B {tf long total docs df : Nat} (h : a2k tf long total docs df) : upN tf docs df ≤ 1000000 := by
 have h1 := a6y 5 df docs
 have h2 := h.h1
 unfold upN
 calc 22 * tf * (a01 5 df docs + 1) ≤ 22 * 80 * 6 := Nat.mul_le_mul (by omega) (by omega)
  _ ≤ 1000000 := by decide
theorem a8t {tf long total docs df : Nat} (h : a2k tf long total docs df) : 0 < a4C tf long total docs ∧ a4C tf long total docs ≤ 1000000 := by
 have h2 := h.h1
 have h3 : 9 * long * docs / total ≤ 9 * long * docs := Nat.div_le_self _ _
 have h4 : 9 * long * docs ≤ 9 * 80 * 16 := Nat.mul_le_mul (by have := h.h2; omega) (by have := h.h4; omega)
 unfold a4C
 generalize 9 * long * docs / total = q at *
 omega
theorem a2q {a b : Nat} (h : a * b ≤ 1000000000000000) : u6 ((a : Int) * (b : Int)) = ((a * b : Nat) : Int) := by
 have e : (a : Int) * (b : Int) = ((a * b : Nat) : Int) := by push_cast; rfl
 rw [e, a8M (by omega)]
theorem a4f {a b : Nat} (h : a + b ≤ 1000000000000000) : u6 ((a : Int) + (b : Int)) = ((a + b : Nat) : Int) := by
 have e : (a : Int) + (b : Int) = ((a + b : Nat) : Int) := by push_cast; rfl
 rw [e, a8M (by omega)]
theorem b3I {a b : Nat} (hb : 0 < b) (h : a ≤ 1000000000000000) : a1y (a : Int) (b : Int) = some ((a / b : Nat) : Int) := by
 have : a / b ≤ a := Nat.div_le_self _ _
 unfold a1y
 rw [if_neg (by omega), a3g, a8M (by omega)]
theorem b4s (F tf long total docs df : Nat) (h : a2k tf long total docs df) (hF : 1000000000 < F) : U6 F (tf : Int) (long : Int) (total : Int) (docs : Int) (df : Int) = some (⟨a7X (upN tf docs df) (a4C tf long total docs), a7W (upN tf docs df) (a4C tf long total docs)⟩, true) := by
 obtain ⟨⟨a1, a2⟩, ⟨b1, b2⟩, ⟨c1, c2⟩, ⟨d1, d2⟩, ⟨e1, e2⟩⟩ := h
 have hh : a2k tf long total docs df := ⟨⟨a1, a2⟩, ⟨b1, b2⟩, ⟨c1, c2⟩, ⟨d1, d2⟩, ⟨e1, e2⟩⟩
 have hu := b2B hh
 have hd := a8t hh
 have hr := a6y 5 df docs
 unfold U6
 simp only [M4, a8]
 rw [c7 (show (1 : Int) ≤ (tf : Int) by omega), c7 (show (tf : Int) ≤ 80 by omega), c7 (show (tf : Int) ≤ (long : Int) by omega), c7 (show (long : Int) ≤ 80 by omega), c7 (show (1 : Int) ≤ (docs : Int) by omega), c7 (show (docs : Int) ≤ 16 by omega), c7 (show (1 : Int) ≤ (df : Int) by omega), c7 (show (df : Int) ≤ (docs : Int) by omega), c7 (show (long : Int) ≤ (total : Int) by omega), c7 (show (total : Int) ≤ 1280 by omega)]
 simp only [l7, l5, g8, a8]
 have hrare := a6k df docs d2 (by omega) rfl 5 0 F (by simp; omega) (by omega) (by omega)
 rw [Nat.zero_add, Nat.pow_zero, Nat.mul_one] at hrare
 rw [show ((0 : Int)) = ((0 : Nat) : Int) from rfl, hrare, a8]
 have hm4 : 9 * long * docs ≤ 9 * 80 * 16 := Nat.mul_le_mul (by omega) (by omega)
 have hq : 9 * long * docs / total ≤ 9 * long * docs := Nat.div_le_self _ _
 have k1 : u6 ((u6 ((9 : Int) * (long : Int))) * (docs : Int)) = ((9 * long * docs : Nat) : Int) := by
  rw [show u6 ((9 : Int) * (long : Int)) = ((9 * long : Nat) : Int) from a2q (a := 9) (by omega), a2q (by omega)]
 have hu2 : 22 * tf * (a01 5 df docs + 1) ≤ 1000000 := hu
 have k2 : u6 ((u6 ((22 : Int) * (tf : Int))) * (u6 (((a01 5 df docs : Nat) : Int) + 1))) = ((upN tf docs df : Nat) : Int) := by
  rw [show u6 ((22 : Int) * (tf : Int)) = ((22 * tf : Nat) : Int) from a2q (a := 22) (by omega), s4 (by omega), a2q (by omega)]; rfl
 have k3 : u6 ((u6 ((u6 ((10 : Int) * (tf : Int))) + (3 : Int))) + ((9 * long * docs / total : Nat) : Int)) = ((a4C tf long total docs : Nat) : Int) := by
  rw [show u6 ((10 : Int) * (tf : Int)) = ((10 * tf : Nat) : Int) from a2q (a := 10) (by omega), show u6 (((10 * tf : Nat) : Int) + 3) = ((10 * tf + 3 : Nat) : Int) from a4f (b := 3) (by omega), a4f (by omega)]; rfl
 rw [k1, b3I (by omega) (by omega), a8, a8, k2, k3, b6Y F _ _ (by omega) ⟨hd.1, by omega⟩ hF]; rfl
def b5Y (tf long total docs df : Nat) : Nat := b0m (upN tf docs df) (a4C tf long total docs)
end Go.Fk
