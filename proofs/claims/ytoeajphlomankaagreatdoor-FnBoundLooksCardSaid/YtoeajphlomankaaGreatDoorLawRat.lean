/-
  Fractions: the program's and the reference's greatest common divisors, lowest terms, and so many times a fraction.
-/
import Derived.Test.YtoeajphlomankaaGreatDoorLawBase
set_option linter.unusedVariables false
set_option maxRecDepth 100000
namespace Go.Fk
open Go
theorem tmod_nat (m n : Nat) : ((m : Int)).tmod (n : Int) = ((m % n : Nat) : Int) := by rw [← Int.ofNat_tmod]
theorem tdiv_nat (m n : Nat) : ((m : Int)).tdiv (n : Int) = ((m / n : Nat) : Int) := by rw [← Int.ofNat_tdiv]
theorem gcd_while {f : Int × Int → Option ((Int × Int) ⊕ Int)} (hf : f = fun (s11 : Int × Int) => (cond (!(s11.2 == (0 : Int))) (Option.bind (remI s11.1 s11.2) fun x26 => (some (.inl (s11.2, x26)))) (some (.inr s11.1)))) : ∀ (n m F : Nat), n < F → whileM f F ((m : Int), (n : Int)) = some ((Nat.gcd m n : Nat) : Int) := by
 intro n
 induction n using Nat.strongRecOn with
 | _ n ih =>
  intro m F hF
  obtain ⟨F, rfl⟩ : ∃ G, F = G + 1 := ⟨F - 1, by omega⟩
  rw [whileM]
  by_cases h : n = 0
  ·subst h
   rw [hf]; simp
  ·have h1 : f ((m : Int), (n : Int)) = some (.inl ((n : Int), ((m % n : Nat) : Int))) := by
    rw [hf]
    dsimp only
    rw [beq_eq_false_iff_ne.2 (by omega), Bool.not_false, cond_true]
    unfold remI
    rw [if_neg (by omega), Option.bind_some, tmod_nat]
   have hlt : m % n < n := Nat.mod_lt _ (by omega)
   rw [h1]
   show whileM f F _ = _
   rw [ih (m % n) hlt n F (by omega), Nat.gcd_comm n, ← Nat.gcd_rec, Nat.gcd_comm]
theorem impl_div (F : Nat) (m n : Nat) (hm : m ≤ 1000000000000) (hn : n ≤ 1000000000000) (hF : n < F) : M.impl_divisor F (m : Int) (n : Int) = some ((Nat.gcd m n : Nat) : Int) := by
 unfold M.impl_divisor
 rw [gcd_while rfl n m F hF, Option.bind_some, Option.bind_some]
 have hg : Nat.gcd m n ≤ 1000000000000 := by
  by_cases h : m = 0
  ·subst h; rw [Nat.gcd_zero_left]; exact hn
  ·exact Nat.le_trans (Nat.gcd_le_left n (by omega)) hm
 rw [w64_of ⟨by omega, by omega⟩, if_neg (by omega)]
theorem spec_gcd : ∀ (F n m : Nat), n < F → m ≤ 1000000000000 → n ≤ 1000000000000 → M.spec_l10Gcd F (m : Int) (n : Int) = some ((Nat.gcd m n : Nat) : Int)
 | 0, n, m, h, _, _ => by omega
 | F + 1, n, m, h, hm, hn => by
  rw [M.spec_l10Gcd]
  dsimp only
  rw [decide_eq_false (by omega), cond_false, Option.bind_some]
  by_cases h0 : n = 0
  ·subst h0; simp
  ·rw [beq_eq_false_iff_ne.2 (by omega), cond_false]
   unfold remI
   have hlt : m % n < n := Nat.mod_lt _ (by omega)
   rw [if_neg (by omega), Option.bind_some, tmod_nat, spec_gcd F (m % n) n (by omega) (by omega) (by omega), Nat.gcd_comm n, ← Nat.gcd_rec, Nat.gcd_comm]; rfl
def lowU (a b : Nat) : Int := ((a / Nat.gcd a b : Nat) : Int)
def lowD (a b : Nat) : Int := ((b / Nat.gcd a b : Nat) : Int)
theorem low_pos {a b : Nat} (hb : 0 < b) : 1 ≤ b / Nat.gcd a b := Nat.div_pos (Nat.gcd_le_right a hb) (Nat.gcd_pos_of_pos_right a hb)
theorem low_gcd {a b : Nat} (hb : 0 < b) : Nat.gcd (a / Nat.gcd a b) (b / Nat.gcd a b) = 1 := Nat.gcd_div_gcd_div_gcd_of_pos_right hb
theorem impl_ok_low (F a b : Nat) (ha : a ≤ 1000000000) (hb : 0 < b ∧ b ≤ 1000000000) (hF : 1000000000 < F) : M.impl_RatOk F ⟨lowU a b, lowD a b⟩ = some true := by
 have h1 : a / Nat.gcd a b ≤ a := Nat.div_le_self _ _
 have h2 : b / Nat.gcd a b ≤ b := Nat.div_le_self _ _
 have h3 := low_pos (a := a) hb.1
 have h5 := low_gcd (a := a) hb.1
 unfold M.impl_RatOk lowU lowD
 dsimp only
 generalize a / Nat.gcd a b = x at *
 generalize b / Nat.gcd a b = y at *
 rw [withinS, decide_eq_true (by omega), decide_eq_true (by omega), Option.bind_some, Bool.true_and, cond_true, withinS, decide_eq_true (by omega), decide_eq_true (by omega), Option.bind_some, Bool.true_and, cond_true, impl_div F _ _ (by omega) (by omega) (by omega), Option.bind_some, h5]; rfl
theorem ratLowI (F a b : Nat) (ha : a ≤ 1000000000) (hb : 0 < b ∧ b ≤ 1000000000) (hF : 1000000000 < F) : M.impl_RatOf F (a : Int) (b : Int) = some (⟨lowU a b, lowD a b⟩, true) := by
 have h1 : a / Nat.gcd a b ≤ a := Nat.div_le_self _ _
 have h2 : b / Nat.gcd a b ≤ b := Nat.div_le_self _ _
 have hg := Nat.gcd_pos_of_pos_right a hb.1
 unfold M.impl_RatOf M.impl_lowest
 rw [withinS, decide_eq_true (by omega), decide_eq_true (by omega), Option.bind_some, Bool.true_and, Bool.not_true, cond_false, withinS, decide_eq_true (by omega), decide_eq_true (by omega), Option.bind_some, Bool.true_and, Bool.not_true, cond_false, Option.bind_some, beq_eq_false_iff_ne.2 (by omega), cond_false, decide_eq_false (by omega), cond_false, Option.bind_some]
 dsimp only
 rw [impl_div F a b (by omega) (by omega) (by omega), Option.bind_some]
 unfold quoI
 rw [if_neg (by omega), Option.bind_some, if_neg (by omega), Option.bind_some, tdiv_nat, tdiv_nat]
 have := impl_ok_low F a b ha hb hF
 unfold lowU lowD at this ⊢
 generalize a / Nat.gcd a b = x at *
 generalize b / Nat.gcd a b = y at *
 rw [w64_of ⟨by omega, by omega⟩, w64_of ⟨by omega, by omega⟩, this]; rfl
theorem ratLowS (F a b : Nat) (ha : a ≤ 1000000000) (hb : 0 < b ∧ b ≤ 1000000000) (hF : 1000000000 < F) : M.spec_l10Make F (a : Int) (b : Int) = some ⟨lowU a b, lowD a b⟩ := by
 have h1 : a / Nat.gcd a b ≤ a := Nat.div_le_self _ _
 have h2 : b / Nat.gcd a b ≤ b := Nat.div_le_self _ _
 have hg := Nat.gcd_pos_of_pos_right a hb.1
 unfold M.spec_l10Make
 rw [decide_eq_false (by omega), cond_false, Option.bind_some]
 dsimp only
 rw [spec_gcd F b a (by omega) (by omega) (by omega), Option.bind_some]
 unfold quoI
 rw [if_neg (by omega), Option.bind_some, if_neg (by omega), Option.bind_some, tdiv_nat, tdiv_nat]
 unfold lowU lowD
 generalize a / Nat.gcd a b = x at *
 generalize b / Nat.gcd a b = y at *
 rw [w64_of ⟨by omega, by omega⟩, w64_of ⟨by omega, by omega⟩]
def milli (a b : Nat) : Nat := a / Nat.gcd a b * 1000 / (b / Nat.gcd a b)
theorem impl_milli (F a b : Nat) (ha : a ≤ 1000000000) (hb : 0 < b ∧ b ≤ 1000000000) (hF : 1000000000 < F) : M.impl_RatFloor F ⟨lowU a b, lowD a b⟩ 1000 = some ((milli a b : Nat) : Int) := by
 have h1 : a / Nat.gcd a b ≤ a := Nat.div_le_self _ _
 have h3 := low_pos (a := a) hb.1
 have h4 : a / Nat.gcd a b * 1000 / (b / Nat.gcd a b) ≤ a / Nat.gcd a b * 1000 := Nat.div_le_self _ _
 unfold M.impl_RatFloor
 rw [impl_ok_low F a b ha hb hF, Option.bind_some, Bool.not_true, cond_false, withinS, Option.bind_some, Option.bind_some]
 unfold lowU lowD milli
 dsimp only
 generalize a / Nat.gcd a b = x at *
 generalize b / Nat.gcd a b = y at *
 have e : (x : Int) * 1000 = ((x * 1000 : Nat) : Int) := by push_cast; rfl
 rw [e, w64_of ⟨by omega, by omega⟩]
 rw [decide_eq_true (show (1 : Int) ≤ 1000 by omega), decide_eq_true (show (1000 : Int) ≤ 1000 by omega), Bool.true_and, Bool.not_true, cond_false, decide_eq_true (by omega), cond_true]
 unfold quoI
 generalize hz : x * 1000 / y = z at *
 rw [if_neg (by omega), Option.bind_some, tdiv_nat, hz, w64_of ⟨by omega, by omega⟩]
theorem spec_milli (a b : Nat) (ha : a ≤ 1000000000) (hb : 0 < b ∧ b ≤ 1000000000) : (Option.bind (quoI (w64 (lowU a b * (1000 : Int))) (lowD a b)) fun x225 => (some x225)) = some ((milli a b : Nat) : Int) := by
 have h1 : a / Nat.gcd a b ≤ a := Nat.div_le_self _ _
 have h3 := low_pos (a := a) hb.1
 have h4 : a / Nat.gcd a b * 1000 / (b / Nat.gcd a b) ≤ a / Nat.gcd a b * 1000 := Nat.div_le_self _ _
 unfold lowU lowD milli
 generalize a / Nat.gcd a b = x at *
 generalize b / Nat.gcd a b = y at *
 have e : (x : Int) * 1000 = ((x * 1000 : Nat) : Int) := by push_cast; rfl
 rw [e, w64_of ⟨by omega, by omega⟩]
 unfold quoI
 generalize hz : x * 1000 / y = z at *
 rw [if_neg (by omega), Option.bind_some, tdiv_nat, hz, w64_of ⟨by omega, by omega⟩]
def rareN : Nat → Nat → Nat → Nat
 | 0, _, _ => 0
 | k + 1, df, docs => if 2 * df ≤ docs then rareN k (2 * df) docs + 1 else 0
theorem rareN_le : ∀ k df docs, rareN k df docs ≤ k
 | 0, _, _ => Nat.le_refl _
 | k + 1, df, docs => by
  have := rareN_le k (2 * df) docs
  unfold rareN
  split <;> omega
theorem spec_rare_at {f : Int × Int → Option ((Int × Int) ⊕ Int)} (docs : Nat) (hd : docs ≤ 100) (hf : f = fun (s11 : Int × Int) => (Option.bind ((cond (decide ((0 : Int) < s11.1)) (some (decide ((w64 (s11.1 * (2 : Int))) ≤ (docs : Int)))) (some false)) : Option Bool) fun o24 => (cond o24 (some (.inl ((w64 (s11.1 * (2 : Int))), (w64 (s11.2 + (1 : Int)))))) (some (.inr s11.2))))) :
  ∀ (k df n F : Nat), 0 < df → docs < df * 2 ^ k → k < F → n + k ≤ 1000 → df ≤ 1000 → whileM f F ((df : Int), (n : Int)) = some ((n + rareN k df docs : Nat) : Int)
 | 0, df, n, F, h0, hk, hF, hn, hdf => by
  obtain ⟨F, rfl⟩ : ∃ G, F = G + 1 := ⟨F - 1, by omega⟩
  have h1 : f ((df : Int), (n : Int)) = some (.inr (n : Int)) := by
   rw [hf]
   dsimp only
   rw [decide_eq_true (by omega), cond_true, w64_of ⟨by omega, by omega⟩, decide_eq_false (by simp at hk; omega)]; rfl
  rw [whileM, h1]; rfl
 | k + 1, df, n, F, h0, hk, hF, hn, hdf => by
  obtain ⟨F, rfl⟩ : ∃ G, F = G + 1 := ⟨F - 1, by omega⟩
  rw [whileM]
  by_cases h : 2 * df ≤ docs
  ·have h1 : f ((df : Int), (n : Int)) = some (.inl (((2 * df : Nat) : Int), ((n + 1 : Nat) : Int))) := by
    rw [hf]
    dsimp only
    rw [decide_eq_true (by omega), cond_true, w64_of ⟨by omega, by omega⟩, decide_eq_true (by omega), w64_succ' (by omega), Option.bind_some, cond_true]
    congr 3; push_cast; omega
   rw [h1]
   show whileM f F _ = _
   rw [spec_rare_at docs hd hf k (2 * df) (n + 1) F (by omega) (by rw [Nat.pow_succ] at hk; rw [Nat.mul_comm 2 df, Nat.mul_assoc, Nat.mul_comm 2]; exact hk) (by omega) (by omega) (by omega)]
   rw [rareN, if_pos h]
   congr 1; omega
  ·have h1 : f ((df : Int), (n : Int)) = some (.inr (n : Int)) := by
    rw [hf]
    dsimp only
    rw [decide_eq_true (by omega), cond_true, w64_of ⟨by omega, by omega⟩, decide_eq_false (by omega)]; rfl
   rw [h1, rareN, if_neg h]; rfl
theorem spec_rare (F df docs : Nat) (h0 : 0 < df) (hd : df ≤ docs) (h16 : docs ≤ 16) (hF : 100 < F) : M.spec_l12Rare F (df : Int) (docs : Int) = some ((rareN 5 df docs : Nat) : Int) := by
 unfold M.spec_l12Rare
 have := spec_rare_at docs (by omega) rfl 5 df 0 F h0 (by omega) (by omega) (by omega) (by omega)
 rw [Nat.zero_add] at this
 show (Option.bind (Option.bind (whileM _ F ((df : Int), ((0 : Nat) : Int))) _) _) = _
 rw [this]; rfl
theorem shl_nat (df n : Nat) (hn : n ≤ 20) (hdf : df ≤ 16) : shlI (df : Int) (w64 ((n : Int) + 1)) = some ((df * 2 ^ n * 2 : Nat) : Int) := by
 have hp : 2 ^ n ≤ 2 ^ 20 := Nat.pow_le_pow_right (by omega) hn
 have hq : df * 2 ^ n ≤ 16 * 2 ^ 20 := Nat.mul_le_mul hdf hp
 rw [w64_succ' (by omega)]
 unfold shlI
 rw [if_neg (by omega), Int.toNat_natCast, Nat.min_eq_left (by omega), Int.pow_succ, ← Int.mul_assoc]
 have e : (df : Int) * 2 ^ n * 2 = ((df * 2 ^ n * 2 : Nat) : Int) := by push_cast; rfl
 rw [e, w64_of ⟨by omega, by omega⟩]
theorem impl_rare_at {f : Int → Option (Int ⊕ Int)} (df docs : Nat) (hd : docs ≤ 16) (hdf : df ≤ 16) (hf : f = fun (s75 : Int) => (Option.bind (shlI (df : Int) (w64 (s75 + (1 : Int)))) fun x87 => (cond (decide (x87 ≤ (docs : Int))) (some (.inl (w64 (s75 + (1 : Int))))) (some (.inr s75))))) :
  ∀ (k n F : Nat), docs < df * 2 ^ n * 2 ^ k → k < F → n + k ≤ 10 → whileM f F (n : Int) = some ((n + rareN k (df * 2 ^ n) docs : Nat) : Int)
 | 0, n, F, hk, hF, hn => by
  obtain ⟨F, rfl⟩ : ∃ G, F = G + 1 := ⟨F - 1, by omega⟩
  rw [Nat.pow_zero, Nat.mul_one] at hk
  have h1 : f (n : Int) = some (.inr (n : Int)) := by
   rw [hf]
   dsimp only
   rw [shl_nat df n (by omega) hdf, Option.bind_some, decide_eq_false (by omega)]; rfl
  rw [whileM, h1]; rfl
 | k + 1, n, F, hk, hF, hn => by
  obtain ⟨F, rfl⟩ : ∃ G, F = G + 1 := ⟨F - 1, by omega⟩
  rw [whileM]
  by_cases h : 2 * (df * 2 ^ n) ≤ docs
  ·have h1 : f (n : Int) = some (.inl ((n + 1 : Nat) : Int)) := by
    rw [hf]
    dsimp only
    rw [shl_nat df n (by omega) hdf, Option.bind_some, decide_eq_true (by omega), w64_succ' (by omega)]; rfl
   have e : df * 2 ^ (n + 1) = 2 * (df * 2 ^ n) := by rw [Nat.pow_succ, ← Nat.mul_assoc, Nat.mul_comm 2]
   rw [h1]
   show whileM f F _ = _
   rw [impl_rare_at df docs hd hdf hf k (n + 1) F (by rw [e, Nat.mul_comm 2, Nat.mul_assoc, ← Nat.pow_succ']; exact hk) (by omega) (by omega), e]
   rw [rareN, if_pos h]
   congr 1; omega
  ·have h1 : f (n : Int) = some (.inr (n : Int)) := by
    rw [hf]
    dsimp only
    rw [shl_nat df n (by omega) hdf, Option.bind_some, decide_eq_false (by omega)]; rfl
   rw [h1, rareN, if_neg h]; rfl
def upN (tf docs df : Nat) : Nat := 22 * tf * (rareN 5 df docs + 1)
def downN (tf long total docs : Nat) : Nat := 10 * tf + 3 + 9 * long * docs / total
structure ScoreOk (tf long total docs df : Nat) : Prop where
 h1 : 1 ≤ tf ∧ tf ≤ 80
 h2 : tf ≤ long ∧ long ≤ 80
 h3 : long ≤ total ∧ total ≤ 1280
 h4 : 1 ≤ docs ∧ docs ≤ 16
 h5 : 1 ≤ df ∧ df ≤ docs
theorem up_le {tf long total docs df : Nat} (h : ScoreOk tf long total docs df) : upN tf docs df ≤ 1000000 := by
 have h1 := rareN_le 5 df docs
 have h2 := h.h1
 unfold upN
 calc 22 * tf * (rareN 5 df docs + 1) ≤ 22 * 80 * 6 := Nat.mul_le_mul (by omega) (by omega)
  _ ≤ 1000000 := by decide
theorem down_le {tf long total docs df : Nat} (h : ScoreOk tf long total docs df) : 0 < downN tf long total docs ∧ downN tf long total docs ≤ 1000000 := by
 have h2 := h.h1
 have h3 : 9 * long * docs / total ≤ 9 * long * docs := Nat.div_le_self _ _
 have h4 : 9 * long * docs ≤ 9 * 80 * 16 := Nat.mul_le_mul (by have := h.h2; omega) (by have := h.h4; omega)
 unfold downN
 generalize 9 * long * docs / total = q at *
 omega
theorem w64_mul {a b : Nat} (h : a * b ≤ 1000000000000000) : w64 ((a : Int) * (b : Int)) = ((a * b : Nat) : Int) := by
 have e : (a : Int) * (b : Int) = ((a * b : Nat) : Int) := by push_cast; rfl
 rw [e, w64_nat (by omega)]
theorem w64_sum {a b : Nat} (h : a + b ≤ 1000000000000000) : w64 ((a : Int) + (b : Int)) = ((a + b : Nat) : Int) := by
 have e : (a : Int) + (b : Int) = ((a + b : Nat) : Int) := by push_cast; rfl
 rw [e, w64_nat (by omega)]
theorem quo_nat {a b : Nat} (hb : 0 < b) (h : a ≤ 1000000000000000) : quoI (a : Int) (b : Int) = some ((a / b : Nat) : Int) := by
 have : a / b ≤ a := Nat.div_le_self _ _
 unfold quoI
 rw [if_neg (by omega), tdiv_nat, w64_nat (by omega)]
theorem impl_term (F tf long total docs df : Nat) (h : ScoreOk tf long total docs df) (hF : 1000000000 < F) : M.impl_TermScore F (tf : Int) (long : Int) (total : Int) (docs : Int) (df : Int) = some (⟨lowU (upN tf docs df) (downN tf long total docs), lowD (upN tf docs df) (downN tf long total docs)⟩, true) := by
 obtain ⟨⟨a1, a2⟩, ⟨b1, b2⟩, ⟨c1, c2⟩, ⟨d1, d2⟩, ⟨e1, e2⟩⟩ := h
 have hh : ScoreOk tf long total docs df := ⟨⟨a1, a2⟩, ⟨b1, b2⟩, ⟨c1, c2⟩, ⟨d1, d2⟩, ⟨e1, e2⟩⟩
 have hu := up_le hh
 have hd := down_le hh
 have hr := rareN_le 5 df docs
 unfold M.impl_TermScore
 simp only [withinS, Option.bind_some]
 rw [decide_eq_true (show (1 : Int) ≤ (tf : Int) by omega), decide_eq_true (show (tf : Int) ≤ 80 by omega), decide_eq_true (show (tf : Int) ≤ (long : Int) by omega), decide_eq_true (show (long : Int) ≤ 80 by omega), decide_eq_true (show (1 : Int) ≤ (docs : Int) by omega), decide_eq_true (show (docs : Int) ≤ 16 by omega), decide_eq_true (show (1 : Int) ≤ (df : Int) by omega), decide_eq_true (show (df : Int) ≤ (docs : Int) by omega), decide_eq_true (show (long : Int) ≤ (total : Int) by omega), decide_eq_true (show (total : Int) ≤ 1280 by omega)]
 simp only [Bool.true_and, Bool.not_true, cond_false, Option.bind_some]
 have hrare := impl_rare_at df docs d2 (by omega) rfl 5 0 F (by simp; omega) (by omega) (by omega)
 rw [Nat.zero_add, Nat.pow_zero, Nat.mul_one] at hrare
 rw [show ((0 : Int)) = ((0 : Nat) : Int) from rfl, hrare, Option.bind_some]
 have hm4 : 9 * long * docs ≤ 9 * 80 * 16 := Nat.mul_le_mul (by omega) (by omega)
 have hq : 9 * long * docs / total ≤ 9 * long * docs := Nat.div_le_self _ _
 have k1 : w64 ((w64 ((9 : Int) * (long : Int))) * (docs : Int)) = ((9 * long * docs : Nat) : Int) := by
  rw [show w64 ((9 : Int) * (long : Int)) = ((9 * long : Nat) : Int) from w64_mul (a := 9) (by omega), w64_mul (by omega)]
 have hu2 : 22 * tf * (rareN 5 df docs + 1) ≤ 1000000 := hu
 have k2 : w64 ((w64 ((22 : Int) * (tf : Int))) * (w64 (((rareN 5 df docs : Nat) : Int) + 1))) = ((upN tf docs df : Nat) : Int) := by
  rw [show w64 ((22 : Int) * (tf : Int)) = ((22 * tf : Nat) : Int) from w64_mul (a := 22) (by omega), w64_succ' (by omega), w64_mul (by omega)]; rfl
 have k3 : w64 ((w64 ((w64 ((10 : Int) * (tf : Int))) + (3 : Int))) + ((9 * long * docs / total : Nat) : Int)) = ((downN tf long total docs : Nat) : Int) := by
  rw [show w64 ((10 : Int) * (tf : Int)) = ((10 * tf : Nat) : Int) from w64_mul (a := 10) (by omega), show w64 (((10 * tf : Nat) : Int) + 3) = ((10 * tf + 3 : Nat) : Int) from w64_sum (b := 3) (by omega), w64_sum (by omega)]; rfl
 rw [k1, quo_nat (by omega) (by omega), Option.bind_some, Option.bind_some, k2, k3, ratLowI F _ _ (by omega) ⟨hd.1, by omega⟩ hF]; rfl
theorem spec_term (F tf long total docs df : Nat) (h : ScoreOk tf long total docs df) (hF : 1000000000 < F) : M.spec_l12Term F (tf : Int) (long : Int) (total : Int) (docs : Int) (df : Int) = some ⟨lowU (upN tf docs df) (downN tf long total docs), lowD (upN tf docs df) (downN tf long total docs)⟩ := by
 obtain ⟨⟨a1, a2⟩, ⟨b1, b2⟩, ⟨c1, c2⟩, ⟨d1, d2⟩, ⟨e1, e2⟩⟩ := h
 have hh : ScoreOk tf long total docs df := ⟨⟨a1, a2⟩, ⟨b1, b2⟩, ⟨c1, c2⟩, ⟨d1, d2⟩, ⟨e1, e2⟩⟩
 have hu := up_le hh
 have hd := down_le hh
 have hr := rareN_le 5 df docs
 unfold M.spec_l12Term
 have hm4 : long * docs * 9 ≤ 80 * 16 * 9 := Nat.mul_le_mul_right _ (Nat.mul_le_mul (by omega) (by omega))
 have hm5 : long * docs ≤ 80 * 16 := Nat.mul_le_mul (by omega) (by omega)
 have e3 : long * docs * 9 = 9 * long * docs := by rw [Nat.mul_comm, Nat.mul_assoc]
 have hq : long * docs * 9 / total ≤ long * docs * 9 := Nat.div_le_self _ _
 have k1 : w64 ((w64 ((long : Int) * (docs : Int))) * (9 : Int)) = ((long * docs * 9 : Nat) : Int) := by
  rw [w64_mul (by omega)]; exact w64_mul (b := 9) (by omega)
 have e7 : 22 * tf * (rareN 5 df docs + 1) = (1 + rareN 5 df docs) * 22 * tf := by rw [Nat.mul_comm (22 * tf), Nat.add_comm, Nat.mul_assoc]
 have hu2 : (1 + rareN 5 df docs) * 22 * tf ≤ 1000000 := by rw [← e7]; exact hu
 have k2 : w64 ((w64 ((w64 ((1 : Int) + ((rareN 5 df docs : Nat) : Int))) * (22 : Int))) * (tf : Int)) = ((upN tf docs df : Nat) : Int) := by
  rw [show w64 ((1 : Int) + ((rareN 5 df docs : Nat) : Int)) = ((1 + rareN 5 df docs : Nat) : Int) from w64_sum (a := 1) (by omega), show w64 (((1 + rareN 5 df docs : Nat) : Int) * 22) = (((1 + rareN 5 df docs) * 22 : Nat) : Int) from w64_mul (b := 22) (by omega), w64_mul (by omega)]
  unfold upN; rw [e7]
 have k3 : w64 ((w64 ((w64 ((10 : Int) * (tf : Int))) + (3 : Int))) + ((long * docs * 9 / total : Nat) : Int)) = ((downN tf long total docs : Nat) : Int) := by
  rw [e3]; rw [e3] at hq
  rw [show w64 ((10 : Int) * (tf : Int)) = ((10 * tf : Nat) : Int) from w64_mul (a := 10) (by omega), show w64 (((10 * tf : Nat) : Int) + 3) = ((10 * tf + 3 : Nat) : Int) from w64_sum (b := 3) (by omega), w64_sum (by omega)]; rfl
 rw [decide_eq_true (by omega), cond_true, k1, quo_nat (by omega) (by omega), Option.bind_some, Option.bind_some, spec_rare F df docs e1 e2 d2 (by omega), Option.bind_some, k2, k3, ratLowS F _ _ (by omega) ⟨hd.1, by omega⟩ hF]; rfl
def scoreN (tf long total docs df : Nat) : Nat := milli (upN tf docs df) (downN tf long total docs)
end Go.Fk
