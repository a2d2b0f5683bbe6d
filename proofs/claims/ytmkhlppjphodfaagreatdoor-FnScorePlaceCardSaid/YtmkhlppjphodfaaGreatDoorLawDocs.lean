/-
  The program's and the reference's tests of documents say the same. Of no program.
-/
import Derived.Test.YtmkhlppjphodfaaGreatDoorLawBase
namespace Go.Fk
open Go
def a5c (b : UInt8) : Bool := !(decide (b < 32) || decide (126 < b))
def a0P (s : k6) : Bool := s.all a5c && decide ((s.length : Int) ≤ 160)
theorem a6W (F : Nat) (s : k6) : T7 F s = some (a0P s) := by
 unfold T7 a0P
 rw [T1 (p := a5c) (xs := s) (fun i x hx => ?_) s.length 0 (by omega), List.drop_zero]
 ·cases s.all a5c <;> rfl
 ·rw [j8, hx, a8]
  unfold a5c
  cases decide (x < (32 : UInt8))
  ·rw [g8, a8, a8]
   cases decide ((126 : UInt8) < x) <;> rfl
  ·rfl
theorem b4U (F : Nat) (s : k6) (hF : s.length < F) (hl : s.length ≤ 2000000) : a1b F s = some (a0P s) := by
 unfold a1b a0P
 have key := fun f h h0 => a3I (p := a5c) (xs := s) (f := f) h h0 s.length 0 F (by omega) hF
 rw [show (0 : Int) = ((0 : Nat) : Int) from rfl, key _ (fun i x hx => ?_) ?_, List.drop_zero]
 ·cases s.all a5c <;> rfl
 ·rw [c6 (by omega)]; rfl
 ·have hi := (d5.1 hx).1
  rw [c7 (by omega), i4, j8, hx, a8, s4 (by omega)]
  unfold a5c
  cases decide (x < (32 : UInt8))
  ·rw [g8, a8, a8]
   cases decide ((126 : UInt8) < x) <;> rfl
  ·rfl
def a2J (f : I5) : Bool := C4 f.Name && a0P f.Text
def a2m (f g : I5) : Bool := y5 f.Name g.Name
def a30 (a : a2r) : Bool := C4 a.Name && (decide (0 ≤ a.Num) && decide (a.Num ≤ 999999999))
def a4A (f g : a2r) : Bool := y5 f.Name g.Name
def a2x (d : s7) : Bool := (a1D a2J a2m d.Fields && a1D a30 a4A d.Nums) && ((decide (1 ≤ d.Id) && decide (d.Id ≤ 9999)) && (decide ((d.Fields.length : Int) ≤ 3) && decide ((d.Nums.length : Int) ≤ 3)))
theorem a6Q (a b : Int) : decide (a < b) = !decide (b ≤ a) := by
 by_cases h : a < b
 ·rw [c7 h, c6 (by omega)]; rfl
 ·rw [c6 h, c7 (by omega)]; rfl
theorem a81 (F : Nat) (d : s7) : X1 F d = some (a2x d) := by
 unfold X1 a2x
 rw [M4, a8]
 cases hid : (decide (1 ≤ d.Id) && decide (d.Id ≤ 9999)) with
 | false => rw [Bool.false_and, Bool.and_false]; rfl
 | true =>
  rw [l5, g8, a6Q 3 (d.Fields.length : Int), a6Q 3 (d.Nums.length : Int)]
  by_cases hf : (d.Fields.length : Int) ≤ 3
  ·by_cases hn : (d.Nums.length : Int) ≤ 3
   ·rw [c7 hf, c7 hn]
    simp only [l5, g8, a8]
    rw [a3S (ok := a2J) (lt := a2m) (xs := d.Fields) (fun i x hx => ?_)]
    ·cases a1D a2J a2m d.Fields with
     | false => rfl
     | true =>
      simp only [if_true, a8, Sum.elim_inl]
      rw [a3S (ok := a30) (lt := a4A) (xs := d.Nums) (fun i x hx => ?_)]
      ·cases a1D a30 a4A d.Nums <;> rfl
      ·have hi := (d5.1 hx).1
       rw [j8, hx, a8, H8, a8]
       unfold a30 a4A
       cases C4 x.Name with
       | false => rfl
       | true =>
        rw [l5, g8, M4, a8]
        cases (decide (0 ≤ x.Num) && decide (x.Num ≤ 999999999)) with
        | false => rfl
        | true =>
         by_cases h0 : i = 0
         ·subst h0; rfl
         ·rw [l5, g8, c7 (show (0 : Int) < (i : Int) by omega), i4, W6 (by omega) (by omega), j8, i8 (show i - 1 < d.Nums.length by omega), a8, c6 h0]
          simp only [Option.elim_some, Bool.false_or]
          cases y5 d.Nums[i - 1].Name x.Name <;> rfl
    ·have hi := (d5.1 hx).1
     rw [j8, hx, a8, H8, a8]
     unfold a2J a2m
     cases C4 x.Name with
     | false => rfl
     | true =>
      rw [l5, g8, a6W, a8]
      cases a0P x.Text with
      | false => rfl
      | true =>
       by_cases h0 : i = 0
       ·subst h0; rfl
       ·rw [l5, g8, c7 (show (0 : Int) < (i : Int) by omega), i4, W6 (by omega) (by omega), j8, i8 (show i - 1 < d.Fields.length by omega), a8, c6 h0]
        simp only [Option.elim_some, Bool.false_or]
        cases y5 d.Fields[i - 1].Name x.Name <;> rfl
   ·rw [c7 hf, c6 hn, Bool.and_false, Bool.and_false, Bool.and_false]; rfl
  ·rw [c6 hf, Bool.false_and, Bool.and_false, Bool.and_false]; rfl
structure a4v (d : s7) : Prop where
 fields : d.Fields.length ≤ 100
 nums : d.Nums.length ≤ 100
 field : ∀ f ∈ d.Fields, f.Name.length ≤ 1000 ∧ f.Text.length ≤ 1000
 num : ∀ a ∈ d.Nums, a.Name.length ≤ 1000
structure b2E (B : Nat) (d : s7) : Prop where
 fields : d.Fields.length ≤ B
 nums : d.Nums.length ≤ B
 field : ∀ f ∈ d.Fields, f.Name.length ≤ B ∧ f.Text.length ≤ B
 num : ∀ a ∈ d.Nums, a.Name.length ≤ B
theorem b4J (F B : Nat) (d : s7) (hd : b2E B d) (hB : B ≤ 2000000) (hF : B + 20 < F) : a2v F d = some (a2x d) := by
 have hm : 10000000 ≤ maxLen := by decide
 obtain ⟨b1, b2, b3, b4⟩ := hd
 unfold a2v a2x
 rw [a3c (ok := a2J) (lt := a2m) (xs := d.Fields) (fun i x hx => ?_) ?_ F (by omega)]
 ·cases a1D a2J a2m d.Fields with
  | false => rfl
  | true =>
   simp only [if_true, a8, Sum.elim_inl]
   rw [a3c (ok := a30) (lt := a4A) (xs := d.Nums) (fun i x hx => ?_) ?_ F (by omega)]
   ·cases a1D a30 a4A d.Nums with
    | false => rfl
    | true =>
     simp only [if_true, a8, Sum.elim_inl, l7]
     rw [inS, a8]
     cases (decide (1 ≤ d.Id) && decide (d.Id ≤ 9999)) with
     | false => rfl
     | true =>
      rw [i4, inS, a8, c7 (show (0 : Int) ≤ (d.Fields.length : Int) by omega), l7]
      cases decide ((d.Fields.length : Int) ≤ 3) <;> rfl
   ·rw [c6 (by omega)]; rfl
   ·have hi := (d5.1 hx).1
    have hb := b4 x (j7 hx)
    rw [c7 (by omega), i4, j8, hx, a8, a7l F _ (by omega) (by omega), a8, s4 (by omega)]
    unfold a30 a4A
    cases C4 x.Name with
    | false => rfl
    | true =>
     rw [l5, g8, a8, inS, a8]
     cases (decide (0 ≤ x.Num) && decide (x.Num ≤ 999999999)) with
     | false => rfl
     | true =>
      by_cases h0 : i = 0
      ·subst h0; rfl
      ·have ht := a3P d.Nums[i - 1].Name x.Name
       rw [l5, g8, c7 (show (0 : Int) < (i : Int) by omega), i4, a8, W6 (by omega) (by omega), j8, i8 (show i - 1 < d.Nums.length by omega), a8, c6 h0, ← ht]
       simp only [Option.elim_some, Bool.false_or]
       cases y5 d.Nums[i - 1].Name x.Name <;> rfl
 ·rw [c6 (by omega)]; rfl
 ·have hi := (d5.1 hx).1
  have hb := b3 x (j7 hx)
  rw [c7 (by omega), i4, j8, hx, a8, a7l F _ (by omega) (by omega), a8, s4 (by omega)]
  unfold a2J a2m
  cases C4 x.Name with
  | false => rfl
  | true =>
   rw [l5, g8, b4U F _ (by omega) (by omega), a8]
   cases a0P x.Text with
   | false => rfl
   | true =>
    by_cases h0 : i = 0
    ·subst h0; rfl
    ·have ht := a3P d.Fields[i - 1].Name x.Name
     rw [l5, g8, c7 (show (0 : Int) < (i : Int) by omega), i4, W6 (by omega) (by omega), j8, i8 (show i - 1 < d.Fields.length by omega), a8, c6 h0, ← ht]
     simp only [Option.elim_some, Bool.false_or]
     cases y5 d.Fields[i - 1].Name x.Name <;> rfl
def a7s (a b : s7) : Bool := decide (a.Id < b.Id)
def Z2 (ds : List s7) : Bool := a1D a2x a7s ds && decide ((ds.length : Int) ≤ 16)
theorem b0f (F : Nat) (ds : List s7) (hl : ds.length < 9000000000000000000) : a0a F ds = some (Z2 ds) := by
 unfold a0a Z2
 rw [a3S (ok := a2x) (lt := a7s) (xs := ds) (fun i x hx => ?_)]
 ·cases a1D a2x a7s ds <;> rfl
 ·have hi := (d5.1 hx).1
  rw [j8, hx, a8, a81, a8]
  unfold a7s
  cases a2x x with
  | false => rfl
  | true =>
   by_cases h0 : i = 0
   ·subst h0; rfl
   ·rw [l5, g8, c7 (show (0 : Int) < (i : Int) by omega), i4, W6 (by omega) (by omega), j8, i8 (show i - 1 < ds.length by omega), a8, c6 h0]
    simp only [Option.elim_some, Bool.false_or]
    rw [a6Q ds[i - 1].Id x.Id]
    cases decide (x.Id ≤ ds[i - 1].Id) <;> rfl
structure X0 (ds : List s7) : Prop where
 few : ds.length ≤ 100
 doc : ∀ d ∈ ds, a4v d
theorem b23 (F B : Nat) (ds : List s7) (hl : ds.length ≤ B) (hd : ∀ d ∈ ds, b2E B d) (hB : B ≤ 2000000) (hF : B + 20 < F) : a1g F ds = some (Z2 ds) := by
 unfold a1g Z2
 rw [a3c (ok := a2x) (lt := a7s) (xs := ds) (fun i x hx => ?_) ?_ F (by omega)]
 ·cases a1D a2x a7s ds <;> rfl
 ·rw [c6 (by omega)]; rfl
 ·have hi := (d5.1 hx).1
  rw [c7 (by omega), i4, j8, hx, a8, b4J F B x (hd x (j7 hx)) hB hF, a8, s4 (by omega)]
  unfold a7s
  cases a2x x with
  | false => rfl
  | true =>
   by_cases h0 : i = 0
   ·subst h0; rfl
   ·rw [l5, g8, c7 (show (0 : Int) < (i : Int) by omega), i4, a8, W6 (by omega) (by omega), j8, i8 (show i - 1 < ds.length by omega), a8, c6 h0]
    simp only [Option.elim_some, Bool.false_or, a8]
    rw [a6Q ds[i - 1].Id x.Id]
    cases decide (x.Id ≤ ds[i - 1].Id) <;> rfl
theorem a2Y {ds : List s7} (h : Z2 ds = true) : ds.length ≤ 16 ∧ (∀ d ∈ ds, 1 ≤ d.Id ∧ d.Id ≤ 9999) ∧ ds.Pairwise fun a b => a.Id < b.Id := by
 unfold Z2 at h
 rw [l6, decide_eq_true_iff] at h
 obtain ⟨h1, h2⟩ := a3b h.1
 refine ⟨by omega, fun d hd => ?_, ?_⟩
 ·have := h1 d hd
  unfold a2x at this
  simp only [l6, decide_eq_true_iff] at this
  exact this.2.1
 ·have gen : ∀ l : List s7, (∀ i, (hi : i + 1 < l.length) → l[i].Id < l[i + 1].Id) → l.Pairwise fun a b => a.Id < b.Id := by
   intro l
   induction l with
   | nil => intro _; exact List.Pairwise.nil
   | cons a l ih =>
    intro hl
    have ih' := ih (fun i hi => by have := hl (i + 1) (by simp only [l4]; omega); simpa using this)
    refine List.pairwise_cons.2 ⟨fun c hc => ?_, ih'⟩
    cases l with
    | nil => cases hc
    | cons b l =>
     have hab : a.Id < b.Id := hl 0 (by simp)
     rcases List.mem_cons.1 hc with rfl | hc
     ·exact hab
     ·have := (List.pairwise_cons.1 ih').1 c hc; omega
  refine gen ds fun i hi => ?_
  have := h2 i hi
  unfold a7s at this
  exact of_decide_eq_true this
theorem a80 (F : Nat) (d : s7) (h1 : d.Fields.length ≤ 1000000) (h2 : d.Nums.length ≤ 1000000) : Y7 F d = some d := by
 unfold Y7
 rw [G7 (by simp only [List.length_nil]; omega), a8, G7 (by simp only [List.length_nil]; omega)]
 rfl
theorem b22 (F : Nat) (d : s7) (h1 : d.Fields.length ≤ 1000000) (h2 : d.Nums.length ≤ 1000000) : a0V F d = some d := a80 F d h1 h2
end Go.Fk
