import Derived.Test.YtmkhlppjphodfaaGreatDoorLawRat
import Derived.Test.YtmkhlppjphodfaaGreatDoorLawSegP
/-
  A term's points in a document of a piece: what the program computes is what the reference computes.
-/
set_option linter.unusedVariables false
set_option maxRecDepth 100000
namespace Go.Fk
open Go
theorem a5Y : ∀ (n : Nat) (s : k6) (o k : Nat), s.length ≤ n → 2 * (Q5 s o k).length ≤ s.length + 1
 | n, [], o, k, _ => by rw [U0]; simp
 | 0, b :: r, o, k, h => by simp at h
 | n + 1, b :: r, o, k, h => by
  rw [Q5]
  by_cases hb : T2 b = true
  ·rw [if_pos hb]
   have hpos : 0 < ((b :: r).takeWhile T2).length := by rw [List.takeWhile_cons, if_pos hb]; simp
   have hle := (List.takeWhile_prefix T2 (l := b :: r)).length_le
   have hdw : (b :: r).drop ((b :: r).takeWhile T2).length = (b :: r).dropWhile T2 := by
    have := List.takeWhile_append_dropWhile (p := T2) (l := b :: r)
    conv => lhs; rw [← this]
    rw [List.drop_left' (by rw [this])]
   have hdl : ((b :: r).drop ((b :: r).takeWhile T2).length).length = (b :: r).length - ((b :: r).takeWhile T2).length := List.length_drop
   rw [l4]
   cases hr : (b :: r).drop ((b :: r).takeWhile T2).length with
   | nil => rw [U0]; simp only [List.length_nil, l4]; omega
   | cons x q =>
    have hx : T2 x = false := by
     rw [hdw] at hr
     have := List.head_dropWhile_not (p := T2) (l := b :: r) (by rw [hr]; simp)
     simp only [hr, List.head_cons] at this
     simpa using this
    rw [hr] at hdl
    rw [Q5, if_neg (by rw [hx]; simp)]
    have ih := a5Y n q (o + ((b :: r).takeWhile T2).length + 1) (k + 1) (by simp only [l4] at hdl h; omega)
    simp only [l4] at hdl ⊢
    omega
  ·rw [if_neg hb]
   have ih := a5Y n r (o + 1) k (by rw [l4] at h; omega)
   rw [l4]; omega
theorem b2y {c : q9} {s : k6} (h : a0P s = true) : (C9 c s).length ≤ 80 := by
 have h1 := a8G (syns := c.Syns) (a05 c s).length (a05 c s)
 have h2 := a1s (g := Z8 c.Stops) (m := 1) (a0j s) (fun w _ => a5G c.Stops w)
 have h3 := a5Y s.length s 0 0 (Nat.le_refl _)
 unfold a0P at h
 simp only [l6, decide_eq_true_iff] at h
 have h4 := h.2
 have h5 : (a05 c s).length = ((a0j s).flatMap (Z8 c.Stops)).length := rfl
 have h6 : (a0j s).length = (Q5 s 0 0).length := rfl
 unfold C9; omega
def a8s (c : q9) (docs : List s7) (n : k6) : Nat := (docs.map fun d => (C9 c (E2 d n)).length).sum
def atS (s : z2) (n t : k6) (id : Int) : List Int := ((J5 s n t).find? fun p => p.Doc == id).elim [] (·.At)
def J4 (c : q9) (s : z2) (n t : k6) (id : Int) : Nat := if (atS s n t id).length = 0 then 0 else b5Y (atS s n t id).length (M8 c s.Docs n id) (a8s c s.Docs n) s.Docs.length (J5 s n t).length
theorem b3C {c : q9} {d : s7} (n t : k6) : (Z9 c d n t).length ≤ (C9 c (E2 d n)).length := by
 have := a1s (g := fun x : y9 => if x.Text == t then [x.At] else []) (m := 1) (C9 c (E2 d n)) (fun x _ => by split <;> simp)
 unfold Z9; omega
theorem b5d {c : q9} {docs : List s7} {n t : k6} {id : Int} (h : (atS (a0i c docs) n t id).length ≠ 0) : ∃ d ∈ docs, d.Id = id ∧ atS (a0i c docs) n t id = Z9 c d n t := by
 unfold atS at h ⊢
 rw [a7I] at h ⊢
 cases hf : (docs.flatMap (L9 c n t)).find? fun p => p.Doc == id with
 | none => rw [hf] at h; exact absurd rfl h
 | some p =>
  have hm := List.mem_of_find?_eq_some hf
  have he := eq_of_beq (List.find?_some (p := fun p : D5 => p.Doc == id) hf)
  obtain ⟨d, hd, hp⟩ := List.mem_flatMap.1 hm
  unfold L9 at hp
  split at hp
  ·rcases List.mem_singleton.1 hp with rfl
   exact ⟨d, hd, he, rfl⟩
  ·cases hp
theorem b5Q (c : q9) (n t : k6) : ∀ docs : List s7, (docs.flatMap (L9 c n t)).length ≤ docs.length := fun docs => by
 have := a1s (g := L9 c n t) (m := 1) docs (fun d _ => a7t c n t d)
 omega
theorem b0O {docs : List s7} (hp : docs.Pairwise fun a b => a.Id < b.Id) {d : s7} (hd : d ∈ docs) : docs.find? (fun e => e.Id == d.Id) = some d := by
 induction docs with
 | nil => cases hd
 | cons e r ih =>
  have hc := List.pairwise_cons.1 hp
  rw [List.find?_cons]
  rcases List.mem_cons.1 hd with rfl | hd
  ·rw [beq_self_eq_true]
  ·have := hc.1 d hd
   rw [beq_eq_false_iff_ne.2 (by omega)]
   exact ih hc.2 hd
theorem b3x {α : Type} (w : α → Nat) {x : α} : ∀ {l : List α}, x ∈ l → w x ≤ (l.map w).sum
 | y :: l, h => by
  rw [List.map_cons, List.sum_cons]
  rcases List.mem_cons.1 h with rfl | h
  ·omega
  ·have := b3x w h; omega
theorem a9v {c : q9} {docs : List s7} (hd : Z2 docs = true) {n t : k6} {id : Int} (h : (atS (a0i c docs) n t id).length ≠ 0) : a2k (atS (a0i c docs) n t id).length (M8 c docs n id) (a8s c docs n) docs.length (J5 (a0i c docs) n t).length := by
 obtain ⟨d, hm, hid, hat⟩ := b5d h
 obtain ⟨i1, i2, i3⟩ := a2Y hd
 have hdoc := (a2y hd).2
 have h80 : ∀ e ∈ docs, (C9 c (E2 e n)).length ≤ 80 := fun e he => b2y (a35 (hdoc e he) n)
 have hfl : M8 c docs n id = (C9 c (E2 d n)).length := by
  unfold M8
  rw [← hid, b0O i3 hm]; rfl
 have h1 := b3C (c := c) (d := d) n t
 have h2 := h80 d hm
 have h3 : (C9 c (E2 d n)).length ≤ a8s c docs n := b3x (fun d => (C9 c (E2 d n)).length) hm
 have h4 : a8s c docs n ≤ docs.length * 80 := a7n docs h80
 have h5 := List.length_pos_of_mem hm
 have h6 := b5Q c n t docs
 have h7 : 0 < (J5 (a0i c docs) n t).length := by
  unfold atS at h
  cases hf : (J5 (a0i c docs) n t).find? fun p => p.Doc == id with
  | none => rw [hf] at h; exact absurd rfl h
  | some p => exact List.length_pos_of_mem (List.mem_of_find?_eq_some hf)
 rw [a7I] at h7 ⊢
 rw [hat] at h ⊢
 rw [hfl]
 exact ⟨⟨by omega, by omega⟩, ⟨h1, h2⟩, ⟨h3, by omega⟩, ⟨by omega, i1⟩, ⟨h7, h6⟩⟩
end Go.Fk
set_option linter.unusedVariables false
set_option maxRecDepth 100000
namespace Go.Fk
open Go
theorem b1X (F : Nat) (x : N3) (n t : k6) : G6 F x n t = a12 F x.s_ n t := rfl
theorem b73 (F : Nat) (x : N3) (id : Int) : L5 F x id = R1 F x.s_ id := rfl
theorem b3v (F : Nat) (x : N3) (c : q9) (n : k6) (id : Int) : F5 F x c n id = a1n F x.s_ c n id := by
 unfold F5 a1n
 rw [b73]
theorem b0g (F : Nat) (c : q9) (s : z2) (n : k6) (id : Int) (h1 : Q9 c = true) (h2 : Z2 s.Docs = true) (hF : 2000 < F) : a1n F s c n id = some (M8 c s.Docs n id : Int) := by
 unfold a1n M8
 rw [a7z, a8]
 cases hf : s.Docs.find? fun d => d.Id == id with
 | none => rfl
 | some d =>
  have hds := (a2y h2).2 d (List.mem_of_find?_eq_some hf)
  have := a7V F h1 hds n hF
  simp only [Option.elim_some, l5, g8]
  rw [a5z, a8] at this ⊢
  rw [this]; rfl
theorem a4K (F : Nat) (c : q9) (s : z2) (n t : k6) (id : Int) : H3 F ⟨c, s⟩ n t id = some (atS s n t id) := by
 unfold H3 atS
 rw [b1X, a4I, a8]
 rw [a15 (xs := J5 s n t) (fun p => p.Doc == id) (fun p => p.At) (fun i x hx => by
  rw [j8, hx, a8]; cases x.Doc == id <;> rfl)]
 cases (J5 s n t).find? (fun p => p.Doc == id) <;> rfl
theorem b5I {c : q9} {docs : List s7} (hd : Z2 docs = true) (n : k6) {d : s7} (hm : d ∈ docs) : M8 c docs n d.Id = (C9 c (E2 d n)).length := by
 unfold M8
 rw [b0O (a2Y hd).2.2 hm]; rfl
theorem b8f {c : q9} {docs : List s7} (hd : Z2 docs = true) (n : k6) (id : Int) : M8 c docs n id ≤ 80 := by
 unfold M8
 cases hf : docs.find? fun d => d.Id == id with
 | none => exact Nat.zero_le _
 | some d => exact b2y (a35 ((a2y hd).2 d (List.mem_of_find?_eq_some hf)) n)
theorem b6f {c : q9} {docs : List s7} (hd : Z2 docs = true) (n : k6) (i : Nat) : ((docs.take i).map fun d => (C9 c (E2 d n)).length).sum ≤ 16 * 80 := by
 have h1 := a7n (w := fun d => (C9 c (E2 d n)).length) (B := 80) (docs.take i) (fun d hm => by
  have := b8f (c := c) hd n d.Id
  rw [b5I hd n (List.mem_of_mem_take hm)] at this
  exact this)
 have h2 := (a2Y hd).1
 have h3 : (docs.take i).length ≤ docs.length := by rw [List.length_take]; omega
 exact Nat.le_trans h1 (Nat.mul_le_mul_right _ (by omega))
theorem b2S (F : Nat) (c : q9) (docs : List s7) (n : k6) (hd : Z2 docs = true) {f : Nat → Int → Option Int} (h : ∀ (i : Nat) d (s : Int), docs[i]? = some d → f i s = some (u6 (s + (M8 c docs n d.Id : Int)))) : W1 f docs.length 0 (0 : Int) = some ((a8s c docs n : Nat) : Int) := by
 obtain ⟨t, ht, hp⟩ := a3M (σ := Int) (f := f) (fun i s => s = ((((docs.take i).map fun d => (C9 c (E2 d n)).length).sum : Nat) : Int)) docs.length (fun i s hi hs => by
  have hb := b6f (c := c) hd n (i + 1)
  refine ⟨_, h i docs[i] s (i8 hi), ?_⟩
  rw [b5I hd n (List.getElem_mem hi), hs]
  rw [List.take_succ_eq_append_getElem hi, List.map_append, List.sum_append] at hb ⊢
  simp only [List.map_cons, List.map_nil, List.sum_cons, List.sum_nil, Nat.add_zero] at hb ⊢
  exact a4f (by omega)) docs.length 0 0 (by omega) (by simp)
 rw [ht, hp, List.take_length]; rfl
theorem a4L (F : Nat) (c : q9) (s : z2) (n t : k6) (id : Int) (ho : O9 c s = true) (hF : 1000000000 < F) : G1 F ⟨c, s⟩ n t id = some (J4 c s n t id : Int) := by
 obtain ⟨h1, h2, h3⟩ := a2f ho
 unfold G1 J4
 rw [a4K, a8]
 by_cases h0 : (atS s n t id).length = 0
 ·rw [if_pos h0, beq_iff_eq.2 (by omega)]; rfl
 ·rw [if_neg h0, beq_eq_false_iff_ne.2 (by omega), g8]
  dsimp only
  rw [b2S F c s.Docs n h2 (fun i d a hx => by
   rw [j8, hx, a8, b3v, b0g F c s n d.Id h1 h2 (by omega), a8]), a8, a8, b3v, b0g F c s n id h1 h2 (by omega), a8, b1X, a4I, a8]
  have hs : a2k (atS s n t id).length (M8 c s.Docs n id) (a8s c s.Docs n) s.Docs.length (J5 s n t).length := by
   have := a9v (c := c) h2 (n := n) (t := t) (id := id)
   rw [← h3] at this
   exact this h0
  have hu := b2B hs
  have hd := a8t hs
  rw [b4s F _ _ _ _ _ hs hF, a8, a8]
  dsimp only
  rw [b2N F _ _ (by omega) ⟨hd.1, by omega⟩ hF]; rfl
theorem a2a (c : q9) (s : z2) (n t : k6) (id : Int) (ho : O9 c s = true) : J4 c s n t id ≤ 1000000000 := by
 obtain ⟨h1, h2, h3⟩ := a2f ho
 unfold J4
 split
 ·omega
 ·rename_i h0
  have hs : a2k (atS s n t id).length (M8 c s.Docs n id) (a8s c s.Docs n) s.Docs.length (J5 s n t).length := by
   have := a9v (c := c) h2 (n := n) (t := t) (id := id)
   rw [← h3] at this
   exact this h0
  have hu := b2B hs
  unfold b5Y b0m
  have a1 : upN (atS s n t id).length s.Docs.length (J5 s n t).length / Nat.gcd (upN (atS s n t id).length s.Docs.length (J5 s n t).length) (a4C (atS s n t id).length (M8 c s.Docs n id) (a8s c s.Docs n) s.Docs.length) ≤ upN (atS s n t id).length s.Docs.length (J5 s n t).length := Nat.div_le_self _ _
  refine Nat.le_trans (Nat.div_le_self _ _) ?_
  omega
end Go.Fk
