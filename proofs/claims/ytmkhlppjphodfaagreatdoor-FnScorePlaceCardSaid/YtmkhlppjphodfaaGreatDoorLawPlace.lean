/-
  A phrase of two words that follow each other: what it is worth. The law, on the models.
-/
import Derived.Test.YtmkhlppjphodfaaGreatDoorModelL
import Derived.Test.YtmkhlppjphodfaaGreatDoorLawScoreX
import Derived.Test.YtmkhlppjphodfaaGreatDoorLawSegP
set_option linter.unusedVariables false
namespace Go.Fk
open Go
def W8 : List k6 := [[99, 97, 116], [100, 111, 103], [114, 117, 110], [110, 121], [110, 101, 119], [102, 111, 120], [122, 122], [108, 97, 114, 103]]
def c0u (l : List S4) : List (k6 × Int) := l.map fun w => (w.Text, w.At)
theorem c1p : ∀ a ∈ W8, ∀ b ∈ W8, (a0t 100 (a ++ [32] ++ b)).map c0u = some [(a, 0), (b, 1)] ∧ a0P (a ++ [32] ++ b) = true := by decide +kernel
theorem c1o : ∀ a ∈ W8, (a0t 100 a).map c0u = some [(a, 0)] ∧ a0P a = true := by decide +kernel
theorem c0f : ∀ a ∈ W8, C4 a = true ∧ T4 a = a ∧ 2 ≤ a.length ∧ a.length ≤ 4 := by decide +kernel
def c0T (stops : List k6) (p : k6 × Int) : List y9 := if !stops.any (· == p.1) && !stops.any (· == W4 p.1) then [⟨W4 p.1, p.2⟩] else []
theorem c0x (c : q9) (s : k6) : a05 c s = (c0u (a0j s)).flatMap (c0T c.Stops) := by
 unfold a05 c0u
 rw [List.flatMap_map]; rfl
theorem c06 {a b : k6} (ha : a ∈ W8) (hb : b ∈ W8) : c0u (a0j (a ++ [32] ++ b)) = [(a, 0), (b, 1)] := by
 obtain ⟨h1, h2⟩ := c1p a ha b hb
 have k1 := (c0f a ha).2.2.2
 have k2 := (c0f b hb).2.2.2
 rw [b2T 100 _ (by simp only [k7, k5]; omega) (by simp only [k7, k5]; omega), h2, if_pos rfl, Option.map_some, Option.some.injEq] at h1
 exact h1
theorem c05 {a : k6} (ha : a ∈ W8) : c0u (a0j a) = [(a, 0)] := by
 obtain ⟨h1, h2⟩ := c1o a ha
 have k1 := (c0f a ha).2.2.2
 rw [b2T 100 _ (by omega) (by omega), h2, if_pos rfl, Option.map_some, Option.some.injEq] at h1
 exact h1
theorem c0Q : ∀ (n : Nat) (l : List y9), l.length ≤ n → a2A [] n l = l
 | 0, [], _ => rfl
 | 0, t :: r, h => by simp at h
 | n + 1, [], _ => rfl
 | n + 1, t :: r, h => by
  show t :: a2A [] n r = t :: r
  rw [c0Q n r (by simpa using h)]
theorem b6p {c : q9} (hc : c.Syns = []) (s : k6) : C9 c s = a05 c s := by
 unfold C9
 rw [hc]
 exact c0Q _ _ (Nat.le_refl _)
theorem c0z {stops : List k6} {a : k6} (ha : a ∈ W8) (i : Int) : c0T stops (a, i) = if stops.any (· == a) then [] else [⟨a, i⟩] := by
 unfold c0T
 rw [a7m (c0f a ha).2.1]
 cases stops.any (· == a) <;> rfl
theorem c0W {c : q9} (hs : c.Syns = []) {a : k6} (ha : a ∈ W8) (h : (a7Q c a == []) = false) : c.Stops.any (· == a) = false ∧ a7Q c a = a := by
 unfold a7Q at h ⊢
 rw [b6p hs, c0x, c05 ha, List.flatMap_singleton, c0z ha] at h ⊢
 cases hc : C4 a && Q9 c with
 | false => rw [hc, if_neg (by decide)] at h; exact absurd h (by decide)
 | true =>
  rw [hc, if_pos rfl] at h
  rw [if_pos rfl]
  cases hb : c.Stops.any (· == a) with
  | true => rw [hb, if_pos rfl] at h; exact absurd h (by decide)
  | false => exact ⟨rfl, rfl⟩
theorem c03 {c : q9} (hs : c.Syns = []) {a b : k6} (ha : a ∈ W8) (hb : b ∈ W8) (h1 : c.Stops.any (· == a) = false) (h2 : c.Stops.any (· == b) = false) : C9 c (O8 [a, b]) = [⟨a, 0⟩, ⟨b, 1⟩] := by
 rw [a2Z, a4M, b6p hs, c0x, c06 ha hb, List.flatMap_cons, List.flatMap_singleton, c0z ha, c0z hb, h1, h2]
 rfl
def b9X (t : k6) (x : y9) : List Int := if x.Text == t then [x.At] else []
theorem c1i {b : UInt8} {r : k6} (hb : T2 b = true) : 0 < ((b :: r).takeWhile T2).length := by rw [List.takeWhile_cons, if_pos hb]; simp
theorem c0s (stops : List k6) {t : k6} (ht : 2 ≤ t.length) : ∀ (n : Nat) (s : k6) (o k : Nat), s.length ≤ n →
  (∀ x ∈ ((Q5 s o k).flatMap (Z8 stops)).flatMap (b9X t), (k : Int) ≤ x) ∧ (((Q5 s o k).flatMap (Z8 stops)).flatMap (b9X t)).Pairwise (fun a b => a < b) ∧
  3 * (((Q5 s o k).flatMap (Z8 stops)).flatMap (b9X t)).length ≤ s.length + 1
 | n, [], o, k, _ => by rw [U0]; exact ⟨fun x hx => (by cases hx), List.Pairwise.nil, by simp⟩
 | 0, b :: r, o, k, h => by simp at h
 | n + 1, b :: r, o, k, h => by
  rw [Q5]
  by_cases hb : T2 b = true
  ·rw [if_pos hb, List.flatMap_cons, List.flatMap_append]
   have hpos := c1i (r := r) hb
   have hrun := (List.takeWhile_prefix (l := b :: r) T2).length_le
   -- behind the word comes a byte that is none, or the end
   generalize hL : ((b :: r).takeWhile T2).length = L at *
   have hrest : ∀ o' : Nat, (∀ x ∈ ((Q5 ((b :: r).drop L) o' (k + 1)).flatMap (Z8 stops)).flatMap (b9X t), ((k + 1 : Nat) : Int) ≤ x) ∧ (((Q5 ((b :: r).drop L) o' (k + 1)).flatMap (Z8 stops)).flatMap (b9X t)).Pairwise (fun a b => a < b) ∧
     3 * (((Q5 ((b :: r).drop L) o' (k + 1)).flatMap (Z8 stops)).flatMap (b9X t)).length + L ≤ (b :: r).length + (if ((b :: r).drop L).length = 0 then 0 else 0) + (if L = (b :: r).length then 0 else 0) := fun o' => by
    cases hd : (b :: r).drop L with
    | nil =>
     rw [U0]
     exact ⟨fun x hx => (by cases hx), List.Pairwise.nil, by simpa using hrun⟩
    | cons y z =>
     have hy : T2 y = false := by
      have := b06 (s := b :: r) (p := 0)
      rw [List.drop_zero, Nat.zero_add, hL] at this
      have e : (b :: r)[L]? = some y := by rw [← List.head?_drop, hd]; rfl
      rcases this with h0 | ⟨y', h0, h1⟩
      ·rw [h0] at e; cases e
      ·rw [h0] at e; cases e; exact h1
     have hlen : (b :: r).length = L + (z.length + 1) := by
      have := congrArg List.length hd
      have hh : (b :: r).length = r.length + 1 := rfl
      rw [List.length_drop] at this
      have hz : (y :: z).length = z.length + 1 := rfl
      omega
     have ih := c0s stops ht n z (o' + 1) (k + 1) (by omega)
     rw [Q5, if_neg (by rw [hy]; decide)]
     refine ⟨ih.1, ih.2.1, ?_⟩
     have := ih.2.2
     rw [hlen]
     simp only [ite_self]
     omega
   obtain ⟨i1, i2, i3⟩ := hrest (o + L)
   simp only [ite_self, Nat.add_zero] at i3
   have hfirst : ((Z8 stops ⟨(((b :: r).takeWhile T2).map a1H).take 12, (k : Int), (o : Int), ((o + L : Nat) : Int)⟩).flatMap (b9X t)) = [] ∨
     (((Z8 stops ⟨(((b :: r).takeWhile T2).map a1H).take 12, (k : Int), (o : Int), ((o + L : Nat) : Int)⟩).flatMap (b9X t)) = [(k : Int)] ∧ 2 ≤ L) := by
    unfold Z8
    split
    ·simp only [List.flatMap_singleton, b9X]
     split
     ·rename_i he
      refine .inr ⟨rfl, ?_⟩
      have he := eq_of_beq he
      have := b2t ((((b :: r).takeWhile T2).map a1H).take 12)
      rw [he, List.length_take, List.length_map, hL] at this
      omega
     ·exact .inl rfl
    ·exact .inl rfl
   rcases hfirst with e | ⟨e, h2⟩
   ·rw [e, List.nil_append]
    exact ⟨fun x hx => by have := i1 x hx; omega, i2, by omega⟩
   ·rw [e]
    refine ⟨fun x hx => ?_, List.pairwise_append.2 ⟨List.pairwise_singleton _ _, i2, fun x hx y hy => ?_⟩, ?_⟩
    ·rcases List.mem_append.1 hx with hx | hx
     ·rw [List.mem_singleton.1 hx]; omega
     ·have := i1 x hx; omega
    ·rw [List.mem_singleton.1 hx]
     have := i1 y hy; omega
    ·rw [k7, k5]
     omega
  ·rw [if_neg hb]
   have ih := c0s stops ht n r (o + 1) k (by simpa using h)
   refine ⟨ih.1, ih.2.1, ?_⟩
   rw [l4]
   have := ih.2.2
   omega
theorem c01 {α : Type} {ok : α → Bool} {lt : α → α → Bool} {xs : List α} (h1 : ∀ x ∈ xs, ok x = true) (h2 : xs.Pairwise fun a b => lt a b = true) : a1D ok lt xs = true := by
 unfold a1D
 rw [List.all_eq_true]
 rintro ⟨x, i⟩ hq
 obtain ⟨j, hj⟩ := List.mem_iff_getElem?.1 hq
 obtain ⟨k1, k2⟩ := b31 hj
 simp only at k1 k2
 subst k2
 obtain ⟨hi, he⟩ := d5.1 k1
 unfold a7H
 simp only
 rw [h1 x (j7 k1), l7]
 rcases Nat.eq_zero_or_pos i with rfl | hp
 ·rfl
 ·have hl : i - 1 < xs.length := by omega
  rw [i8 hl]
  have := List.pairwise_iff_getElem.1 h2 (i - 1) i hl hi (by omega)
  rw [he] at this
  simp [this]
theorem c1k {c : q9} {s : z2} (ho : O9 c s = true) (hs : c.Syns = []) (n : k6) {t : k6} (ht : 2 ≤ t.length) (id : Int) : upQ (atS s n t id) = true := by
 obtain ⟨_, h2, h3⟩ := a2f ho
 have hr := b0F ho n t id
 have hp : (atS s n t id).Pairwise (fun a b => a < b) ∧ 3 * (atS s n t id).length ≤ 161 := by
  rw [h3]
  by_cases h0 : (atS (a0i c s.Docs) n t id).length = 0
  ·rw [List.length_eq_zero_iff.1 h0]
   exact ⟨List.Pairwise.nil, by simp⟩
  ·obtain ⟨d, hd, _, he⟩ := b5d h0
   have h160 := b4e (a98 h2 d hd) n
   have hu := c0s c.Stops ht _ (E2 d n) 0 0 (Nat.le_refl _)
   have e : Z9 c d n t = ((Q5 (E2 d n) 0 0).flatMap (Z8 c.Stops)).flatMap (b9X t) := by
    unfold Z9
    rw [b6p hs]; rfl
   rw [he, e]
   exact ⟨hu.2.1, by omega⟩
 unfold upQ
 rw [c01 (fun x hx => ?_) (hp.1.imp fun h => c7 h), l7, c7 (by omega)]
 have := hr.1 x hx
 unfold okN
 rw [c7 this.1, c7 (by omega)]; rfl
theorem c0E {sh : Int} (h : sh = 0) {l : List Int} (hl : ∀ x ∈ l, 0 ≤ x) : l.flatMap (a7D sh) = l := by
 subst h
 induction l with
 | nil => rfl
 | cons x r ih =>
  rw [List.flatMap_cons, ih fun y hy => hl y (.tail _ hy), a7D, if_pos (c7 (hl x (.head _)))]
  show (x - 0) :: r = x :: r
  rw [Int.sub_zero]
theorem c00 {c : q9} {s : z2} (ho : O9 c s = true) (f a b : k6) (id : Int) : a04 s f id [⟨a, 0⟩, ⟨b, 1⟩] = [atS s f a id, atS s f b id] := by
 have e1 := c0E (sh := a1z [⟨a, 0⟩, ⟨b, 1⟩] (⟨a, 0⟩, 0)) (l := atS s f a id) rfl fun x hx => ((b0F ho f a id).1 x hx).1
 have e2 := c0E (sh := a1z [⟨a, 0⟩, ⟨b, 1⟩] (⟨b, 1⟩, 1)) (l := atS s f b id) rfl fun x hx => ((b0F ho f b id).1 x hx).1
 exact congr (congrArg List.cons e1) (congrArg (fun l => [l]) e2)
theorem c1a (l : List Int) (p : Int) : a0m [l] p (p + 1) = l.any (· == p + 1) := by
 show (l.any fun x => decide (p < x) && decide (x ≤ p + 1)) = _
 congr 1
 funext x
 by_cases h : x = p + 1
 ·subst h
  rw [c7 (by omega), c7 (by omega), beq_self_eq_true]; rfl
 ·rw [beq_eq_false_iff_ne.2 h]
  by_cases h1 : p < x
  ·rw [c6 (by omega : ¬x ≤ p + 1), Bool.and_false]
  ·rw [c6 h1, Bool.false_and]
theorem c0S {A B : List Int} (ha : upQ A = true) (hb : upQ B = true) : a3m [A, B] 0 = A.filter fun p => B.any (· == p + 1) := by
 have h : ([A, B].all upQ && (decide (1 ≤ (([A, B].length : Nat) : Int)) && decide ((([A, B].length : Nat) : Int) ≤ 6)) && (decide ((0 : Int) ≤ 0) && decide ((0 : Int) ≤ 5))) = true := by
  rw [List.all_cons, ha, List.all_cons, hb]; rfl
 unfold a3m
 rw [if_pos h]
 show A.filter (fun p => a0m [B] p (p + ((2 : Nat) : Int) - 1 + 0)) = _
 congr 1
 funext p
 rw [show p + ((2 : Nat) : Int) - 1 + 0 = p + 1 by omega]
 exact c1a B p
def b8l (A B : List Int) : Nat := (A.filter fun p => B.any (· == p + 1)).length
theorem c0P {c : q9} {s : z2} (ho : O9 c s = true) (hs : c.Syns = []) (f : k6) {a b : k6} (ha : a ∈ W8) (hb : b ∈ W8) (h1 : (a7Q c a == []) = false) (h2 : (a7Q c b == []) = false) (id : Int) :
  a2N c s f [a, b] 0 id = (if b8l (atS s f (a7Q c a) id) (atS s f (a7Q c b) id) < 3 then b8l (atS s f (a7Q c a) id) (atS s f (a7Q c b) id) else 3) * (J4 c s f (a7Q c a) id + J4 c s f (a7Q c b) id) := by
 obtain ⟨a1, a2⟩ := c0W hs ha h1
 obtain ⟨b1, b2⟩ := c0W hs hb h2
 unfold a2N
 rw [c03 hs ha hb a1 b1, a2, b2]
 dsimp only
 rw [c00 ho, c0S (c1k ho hs f (c0f a ha).2.2.1 id) (c1k ho hs f (c0f b hb).2.2.1 id)]
 rw [if_neg (by simp)]
 show _ * (J4 c s f a id + (J4 c s f b id + 0)) = _
 rw [Nat.add_zero]; rfl
theorem c0Z (F : Nat) (r : u5) (hr : b34 r 900000) : ∃ s p, p8 F r = some (s, ⟨r.b_, p⟩) ∧ a9N r p 1 ∧ C4 s = true := by
 obtain ⟨h1, h2, h3⟩ := hr
 unfold p8
 obtain ⟨s, hs, e⟩ := a7G F r [[98, 111, 100, 121], [98, 111, 100, 121], [116, 105, 116, 108, 101], [110, 111, 110, 101]] ⟨h1, h2, by omega⟩ (by simp)
 rw [e, a8]
 exact ⟨s, _, rfl, ⟨by omega, by omega⟩, (by decide : ∀ s ∈ ([[98, 111, 100, 121], [98, 111, 100, 121], [116, 105, 116, 108, 101], [110, 111, 110, 101]] : List k6), C4 s = true) s hs⟩
theorem b6r (F : Nat) (code : List UInt8) (hF : 200000 < F) : ∃ c s n t, k4 F code = some (c, s, n, t) ∧ a2i 100 c ∧ X0 s.Docs ∧ C4 n = true ∧ t ∈ W8 := by
 unfold k4
 obtain ⟨r, hr, h1, h2⟩ := b6V F code
 rw [hr, a8]
 obtain ⟨c, s, p, hs, ⟨p0, p1⟩, hcd, hsf, _⟩ := b35 F r ⟨h1, by omega, by omega⟩ hF
 rw [hs, a8]
 dsimp only
 obtain ⟨n, q, hn, ⟨q0, q1⟩, hw⟩ := c0Z F ⟨r.b_, p⟩ ⟨h1, by simp only; omega, by simp only; omega⟩
 simp only at q0 q1
 rw [hn, a8]
 dsimp only
 obtain ⟨t, h8, ht⟩ := a7G F ⟨r.b_, q⟩ [[99, 97, 116], [100, 111, 103], [114, 117, 110], [110, 121], [110, 101, 119], [102, 111, 120], [122, 122], [108, 97, 114, 103]] ⟨h1, by simp only; omega, by simp only; omega⟩ (by simp)
 rw [ht, a8]
 exact ⟨_, _, _, _, rfl, hcd.fit, hsf, hw, h8⟩
theorem c09 (F : Nat) (s : z2) (n t : k6) (id : Int) (hp : (J5 s n t).length ≤ 10000) (hF : 20000 < F) : a4r F (J5 s n t) id = some (atS s n t id) := by
 unfold a4r atS
 rw [X9 (xs := J5 s n t) (fun p => p.Doc == id) (fun p => (.inr p.At : Unit ⊕ List Int)) (e := .inl ()) F (by omega) (fun i x hx => ?_) ?_]
 ·cases (J5 s n t).find? (fun p => p.Doc == id) <;> rfl
 ·rw [c6 (by omega)]; rfl
 ·have hi := (d5.1 hx).1
  rw [c7 (by omega), i4, j8, hx, a8, a8, s4 (by omega)]
  cases x.Doc == id <;> rfl
theorem c1y (F : Nat) (l : List Int) (n : Int) (hl : l.length ≤ 10000) (hF : 20000 < F) : a2B F l n = some (l.any (· == n)) := by
 unfold a2B
 rw [X9 (xs := l) (fun p => p == n) (fun p => (.inr true : Unit ⊕ Bool)) (e := .inl ()) F (by omega) (fun i x hx => ?_) ?_]
 ·cases hf : l.find? (fun p => p == n) with
  | none =>
   have : l.any (· == n) = false := by
    rw [List.any_eq_false]
    exact fun x hx => by simpa using List.find?_eq_none.1 hf x hx
   rw [this]; rfl
  | some x =>
   have : l.any (· == n) = true := List.any_eq_true.2 ⟨x, List.mem_of_find?_eq_some hf, List.find?_some (p := fun p : Int => p == n) hf⟩
   rw [this]; rfl
 ·rw [c6 (by omega)]; rfl
 ·have hi := (d5.1 hx).1
  rw [c7 (by omega), i4, j8, hx, a8, s4 (by omega)]
  cases x == n <;> rfl
theorem c0H {c : q9} {s : z2} {q : r5} (hq : a3i q) (ho : O9 c s = true) {x : s7} (hx : x ∈ s.Docs) : N7 c s 1 q x.Id = b1R c s q x := by
 unfold N7
 rw [if_pos ho, b5z ho hx]
 show A9 c s 1 q x = _
 rw [A9, if_pos (a6X hq)]
theorem c0U {A : List Int} (p : Int → Bool) {i : Nat} (hi : i < A.length) : ((A.take (i + 1)).filter p).length = ((A.take i).filter p).length + (if p A[i] then 1 else 0) := by
 rw [List.take_add_one, i8 hi, List.filter_append, k7]
 cases h : p A[i] <;> simp [h]
theorem c1n {α : Type} {o : Option α} {m : α} (h : ∃ t, o = some t ∧ t = m) : o = some m := by
 obtain ⟨t, h1, h2⟩ := h
 rw [h1, h2]
def c0r (n : Nat) : Nat := if n < 3 then n else 3
theorem c08 {A : List Int} (p : Int → Bool) (i : Nat) : ((A.take i).filter p).length ≤ (A.filter p).length := (((List.take_sublist i A).filter p)).length_le
theorem c0y (code more : List UInt8) : ∃ F, p7 F code more = some true := by
 refine ⟨2000000000, ?_⟩
 generalize hF : 2000000000 = F
 unfold p7
 cases decide ((1048576 : Int) < (code.length : Int))
 case true => rfl
 cases decide ((1048576 : Int) < (more.length : Int))
 case true => rfl
 obtain ⟨c, s, n, a, h1, hc, hs, hn, ha⟩ := b6r F code (by omega)
 obtain ⟨c', s', n', b, h2, _, _, _, hb⟩ := b6r F more (by omega)
 have hl := hs.few
 have hst := hc.stops.1
 rw [g8, a8, g8, h1, a8, h2, a8]
 dsimp only
 have hspec : a4u F c s = some (O9 c s) := by
  unfold a4u
  rw [b7d F 100 c s hs hc (by omega) (by omega)]; rfl
 rw [b3u F c s (by omega) (by omega) (by omega), a8, hspec, b2R F c a (by omega) (by omega), b2R F c b (by omega) (by omega)]
 have hsame : ((some (O9 c s)).bind fun r155 => ((some (O9 c s)).bind fun r162 => (some (r155 == r162)))) = some true := by
  rw [a8, a8, beq_self_eq_true]
 rw [hsame]
 cases ho : O9 c s with
 | false => rfl
 | true =>
 rw [l5, g8]
 cases hsy : decide ((0 : Int) < (c.Syns.length : Int)) with
 | true => rfl
 | false =>
 have hsyn : c.Syns = [] := List.length_eq_zero_iff.1 (by have := of_decide_eq_false hsy; omega)
 rw [g8, a8]
 cases h3 : a7Q c a == [] with
 | true => rfl
 | false =>
 rw [g8, a8]
 cases h4 : a7Q c b == [] with
 | true => rfl
 | false =>
 rw [a8, g8]
 have hp : ∀ t, (J5 s n t).length ≤ 10000 := fun t => (a4c ho n t).1
 have la : a3i ⟨2, n, [a], 0, 0, []⟩ := .term hn (c0f a ha).1
 have lb : a3i ⟨2, n, [b], 0, 0, []⟩ := .term hn (c0f b hb).1
 have lp : a3i ⟨3, n, [a, b], 0, 0, []⟩ := .phrase hn (by simp) (by simp) (fun w hw => by
  rcases List.mem_cons.1 hw with rfl | hw
  ·exact (c0f _ ha).1
  ·rw [List.mem_singleton.1 hw]; exact (c0f _ hb).1) (by omega) (by omega)
 rw [c0A (n := s.Docs.length) F (by omega) (fun i hi => ?_) ?_]
 ·rfl
 ·rw [c6 (by omega)]; rfl
 ·have hx : s.Docs[i] ∈ s.Docs := List.getElem_mem hi
  rw [c7 (by omega), i4, a0X hi, a8, a8, b72 F c s n _ (by omega) (by omega) (by omega), if_pos ho, a8, c09 F s n _ _ (hp _) (by omega), a8, a8,
   b72 F c s n _ (by omega) (by omega) (by omega), if_pos ho, a8, c09 F s n _ _ (hp _) (by omega), a8]
  have hA := b0F ho n (a7Q c a) s.Docs[i].Id
  have hB := b0F ho n (a7Q c b) s.Docs[i].Id
  have hq := c0P ho hsyn n ha hb h3 h4 s.Docs[i].Id
  have ra := b5H c s la s.Docs[i] ho
  have rb := b5H c s lb s.Docs[i] ho
  have e1 : b1R c s ⟨2, n, [a], 0, 0, []⟩ s.Docs[i] = ((J4 c s n (a7Q c a) s.Docs[i].Id : Nat) : Int) := rfl
  have e2 : b1R c s ⟨2, n, [b], 0, 0, []⟩ s.Docs[i] = ((J4 c s n (a7Q c b) s.Docs[i].Id : Nat) : Int) := rfl
  have e3 : b1R c s ⟨3, n, [a, b], 0, 0, []⟩ s.Docs[i] = ((a2N c s n [a, b] 0 s.Docs[i].Id : Nat) : Int) := rfl
  rw [e1] at ra
  rw [e2] at rb
  rw [hq] at e3
  generalize hAd : atS s n (a7Q c a) s.Docs[i].Id = A at *
  generalize hBd : atS s n (a7Q c b) s.Docs[i].Id = B at *
  generalize hpa : J4 c s n (a7Q c a) s.Docs[i].Id = x at *
  generalize hpb : J4 c s n (a7Q c b) s.Docs[i].Id = y at *
  let p : Int → Bool := fun k => B.any (· == k + 1)
  have hloop : r4 (σ := Int × Int) (τ := Int) (fun (s307 : Int × Int) => (((cond (decide (s307.2 < (A.length : Int))) (some (decide (s307.1 < 3))) (some false)) : Option Bool).bind fun o321 => (cond o321 ((n5 A s307.2).bind fun x332 => ((a2B F B (u6 (x332 + 1))).bind fun r342 => (cond r342 (some (.inl ((u6 (s307.1 + 1)), (u6 (s307.2 + 1))))) (some (.inl (s307.1, (u6 (s307.2 + 1)))))))) (some (.inr s307.1))))) F (0, 0) = some ((c0r (b8l A B) : Nat) : Int) := by
   refine c1n (H4 (Post := fun t : Int => t = ((c0r (b8l A B) : Nat) : Int)) (fun i (st : Int × Int) => st = (((c0r ((A.take i).filter p).length : Nat) : Int), (i : Int))) A.length
    (f := fun (s307 : Int × Int) => (((cond (decide (s307.2 < (A.length : Int))) (some (decide (s307.1 < 3))) (some false)) : Option Bool).bind fun o321 => (cond o321 ((n5 A s307.2).bind fun x332 => ((a2B F B (u6 (x332 + 1))).bind fun r342 => (cond r342 (some (.inl ((u6 (s307.1 + 1)), (u6 (s307.2 + 1))))) (some (.inl (s307.1, (u6 (s307.2 + 1)))))))) (some (.inr s307.1)))))
    (fun i st hi' e => ?_) (fun st e => ?_) A.length 0 (0, 0) F (by omega) (by omega) (by rw [List.take_zero]; rfl))
   ·subst e
    rw [c7 (by omega), i4, a8]
    by_cases h7 : ((A.take i).filter p).length < 3
    ·refine .inl ⟨_, ?_, rfl⟩
     have hm : c0r ((A.take i).filter p).length = ((A.take i).filter p).length := if_pos h7
     rw [hm, c7 (by omega), i4, a0X hi', a8]
     have hr := hA.1 A[i] (List.getElem_mem hi')
     rw [y8 (n := A[i] + 1) ⟨by omega, by omega⟩, c1y F B _ (by omega) (by omega), a8, c0U p hi', s4 (by omega), s4 (by omega)]
     show (cond (p A[i]) _ _) = _
     cases h8 : p A[i] with
     | true =>
      rw [i4, if_pos rfl]
      have : c0r (((A.take i).filter p).length + 1) = ((A.take i).filter p).length + 1 := by unfold c0r; split <;> omega
      rw [this]
     | false =>
      rw [g8, if_neg (by decide), show c0r (((A.take i).filter p).length + 0) = ((A.take i).filter p).length from hm]
    ·refine .inr ⟨_, ?_, rfl⟩
     have hm : c0r ((A.take i).filter p).length = 3 := if_neg h7
     have hle := c08 (A := A) p i
     have hM : c0r (b8l A B) = 3 := if_neg (by show ¬(A.filter p).length < 3; omega)
     rw [hm, c6 (by omega), g8, hM]
   ·subst e
    refine ⟨_, ?_, rfl⟩
    dsimp only
    rw [c6 (by omega), g8, a8, g8, List.take_of_length_le (Nat.le_refl _)]
    rfl
  rw [hloop, a8, a8, a2K F (d := 1) _ (.leaf la) (by omega) (by omega) (by omega) (by omega), a8, a2K F (d := 1) _ (.leaf lb) (by omega) (by omega) (by omega) (by omega), a8,
   a2K F (d := 1) _ (.leaf lp) (by omega) (by omega) (by omega) (by omega), a8, c0H la ho hx, c0H lb ho hx, c0H lp ho hx, e1, e2, e3]
  have hm3 : c0r (b8l A B) ≤ 3 := by unfold c0r; split <;> omega
  have hm4 : (if b8l A B < 3 then b8l A B else 3) = c0r (b8l A B) := rfl
  rw [hm4]
  generalize c0r (b8l A B) = m at *
  have hmul : m * (x + y) ≤ 3 * (x + y) := Nat.mul_le_mul_right _ hm3
  rw [y8 (n := (x : Int) + (y : Int)) ⟨by omega, by omega⟩, show ((x : Int) + (y : Int)) * (m : Int) = ((m * (x + y) : Nat) : Int) by rw [Int.mul_comm]; push_cast; rfl, y8 (n := ((m * (x + y) : Nat) : Int)) ⟨by omega, by omega⟩, beq_self_eq_true, l5, g8, s4 (by omega)]
end Go.Fk
