import Derived.Test.YtmkhlppjphodfaaGreatDoorLawRat
import Derived.Test.YtmkhlppjphodfaaGreatDoorLawSegP
/-
  A term's points in a document of a piece: what the program computes is what the reference computes.
-/
set_option linter.unusedVariables false
set_option maxRecDepth 100000
namespace Go.Fk
open Go
theorem a5Y : ∀ (n : Nat) (s : k6) (o k : Nat), s.length ≤ n → 2 * (Q5 s o k).length ≤ s.length + 1
 | n, [], o, k, _ => by rw [U0]; simp
 | 0, b :: r, o, k, h => by simp at h
 | n + 1, b :: r, o, k, h => by
  rw [Q5]
  by_cases hb : T2 b = true
  ·rw [if_pos hb]
   have hpos : 0 < ((b :: r).takeWhile T2).length := by rw [List.takeWhile_cons, if_pos hb]; simp
   have hle := (List.takeWhile_prefix T2 (l := b :: r)).length_le
   have hdw : (b :: r).drop ((b :: r).takeWhile T2).length = (b :: r).dropWhile T2 := by
    have := List.takeWhile_append_dropWhile (p := T2) (l := b :: r)
    conv => lhs; rw [← this]
    rw [List.drop_left' (by rw [this])]
   have hdl : ((b :: r).drop ((b :: r).takeWhile T2).length).length = (b :: r).length - ((b :: r).takeWhile T2).length := List.length_drop
   rw [l4]
   cases hr : (b :: r).drop ((b :: r).takeWhile T2).length with
   | nil => rw [U0]; simp only [List.length_nil, l4]; omega
   | cons x q =>
    have hx : T2 x = false := by
     rw [hdw] at hr
     have := List.head_dropWhile_not (p := T2) (l := b :: r) (by rw [hr]; simp)
     simp only [hr, List.head_cons] at this
     simpa using this
    rw [hr] at hdl
    rw [Q5, if_neg (by rw [hx]; simp)]
    have ih := a5Y n q (o + ((b :: r).takeWhile T2).length + 1) (k + 1) (by simp only [l4] at hdl h; omega)
    simp only [l4] at hdl ⊢
    omega
  ·rw [if_neg hb]
   have ih := a5Y n r (o + 1) k (by rw [l4] at h; omega)
   rw [l4]; omega
theorem b2y {c : q9} {s : k6} (h : a0P s = true) : (C9 c s).length ≤ 80 := by
 have h1 := a8G (syns := c.Syns) (a05 c s).length (a05 c s)
 have h2 := a1s (g := Z8 c.Stops) (m := 1) (a0j s) (fun w _ => a5G c.Stops w)
 have h3 := a5Y s.length s 0 0 (Nat.le_refl _)
 unfold a0P at h
 simp only [l6, decide_eq_true_iff] at h
 have h4 := h.2
 have h5 : (a05 c s).length = ((a0j s).flatMap (Z8 c.Stops)).length := rfl
 have h6 : (a0j s).length = (Q5 s 0 0).length := rfl
 unfold C9; omega
def a0I (n : k6) (e : u9) : Nat := if e.Field == n then (e.Posts.map fun p => p.At.length).sum else 0
def a8s (c : q9) (docs : List s7) (n : k6) : Nat := (docs.map fun d => (C9 c (E2 d n)).length).sum
theorem b2w {α β : Type} (f : α → β → Nat) (T : List α) : ∀ D : List β, (T.map fun t => (D.map (f t)).sum).sum = (D.map fun d => (T.map fun t => f t d).sum).sum
 | [] => by simp only [List.map_nil, List.sum_nil]; exact a3f T
 | d :: D => by
  rw [List.map_cons, List.sum_cons, ← b2w f T D, ← b1g]
  congr 1
theorem b42 {c : q9} {docs : List s7} (n : k6) : ((a0i c docs).Entries.map (a0I n)).sum = a8s c docs n := by
 have hnn : (S5 docs).Nodup := (show List.Pairwise (fun a b => y5 a b = true) (S5 docs) from a38 docs).imp fun {a b} k e => by subst e; rw [a0e] at k; cases k
 have htn : (G4 c docs n).Nodup := (show List.Pairwise (fun a b => y5 a b = true) (G4 c docs n) from a3v c docs n).imp fun {a b} k e => by subst e; rw [a0e] at k; cases k
 show (((S5 docs).flatMap fun n => (G4 c docs n).map (H2 c docs n)).map (a0I n)).sum = _
 rw [a6G, a6H (a := n) _ hnn (fun m _ hm => ?_)]
 ·have hin : ((G4 c docs n).map (H2 c docs n)).map (a0I n) = (G4 c docs n).map fun t => (docs.map fun d => (Z9 c d n t).length).sum := by
   rw [List.map_map]
   refine List.map_congr_left fun t _ => ?_
   show a0I n (H2 c docs n t) = _
   unfold a0I H2
   simp only [beq_self_eq_true, if_true]
   rw [a6G]
   congr 1
   refine List.map_congr_left fun d _ => ?_
   unfold L9
   by_cases h0 : 0 < (Z9 c d n t).length
   ·rw [c7 h0, if_pos rfl]; simp
   ·rw [c6 h0, if_neg (by simp)]
    have : (Z9 c d n t).length = 0 := by omega
    rw [this]; rfl
  rw [hin, b2w]
  unfold a8s
  by_cases hm : n ∈ S5 docs
  ·rw [if_pos hm]
   congr 1
   refine List.map_congr_left fun d hd => ?_
   exact a6O htn _ fun x hx => a16.2 ⟨d, hd, x, hx, rfl⟩
  ·rw [if_neg hm]
   have : (docs.map fun d => (C9 c (E2 d n)).length) = docs.map fun _ => 0 := List.map_congr_left fun d hd => by
    have : E2 d n = [] := by
     unfold E2
     cases hff : d.Fields.find? fun f => f.Name == n with
     | none => rfl
     | some f => exact absurd (a5l.2 ⟨d, hd, f, List.mem_of_find?_eq_some hff, eq_of_beq (List.find?_some (p := fun f : I5 => f.Name == n) hff)⟩) hm
    rw [this, a2U]; rfl
   rw [this, a3f]
 ·have : ((G4 c docs m).map (H2 c docs m)).map (a0I n) = (G4 c docs m).map fun _ => 0 := by
   rw [List.map_map]
   refine List.map_congr_left fun t _ => ?_
   show a0I n (H2 c docs m t) = 0
   unfold a0I
   have : ((H2 c docs m t).Field == n) = false := beq_eq_false_iff_ne.2 hm
   rw [this]; rfl
  rw [this]
  exact a3f _
def atS (s : z2) (n t : k6) (id : Int) : List Int := ((J5 s n t).find? fun p => p.Doc == id).elim [] (·.At)
def J4 (c : q9) (s : z2) (n t : k6) (id : Int) : Nat := if (atS s n t id).length = 0 then 0 else b5Y (atS s n t id).length (M8 c s.Docs n id) (a8s c s.Docs n) s.Docs.length (J5 s n t).length
theorem b3C {c : q9} {d : s7} (n t : k6) : (Z9 c d n t).length ≤ (C9 c (E2 d n)).length := by
 have := a1s (g := fun x : y9 => if x.Text == t then [x.At] else []) (m := 1) (C9 c (E2 d n)) (fun x _ => by split <;> simp)
 unfold Z9; omega
theorem b5d {c : q9} {docs : List s7} {n t : k6} {id : Int} (h : (atS (a0i c docs) n t id).length ≠ 0) : ∃ d ∈ docs, d.Id = id ∧ atS (a0i c docs) n t id = Z9 c d n t := by
 unfold atS at h ⊢
 rw [a7I] at h ⊢
 cases hf : (docs.flatMap (L9 c n t)).find? fun p => p.Doc == id with
 | none => rw [hf] at h; exact absurd rfl h
 | some p =>
  have hm := List.mem_of_find?_eq_some hf
  have he := eq_of_beq (List.find?_some (p := fun p : D5 => p.Doc == id) hf)
  obtain ⟨d, hd, hp⟩ := List.mem_flatMap.1 hm
  unfold L9 at hp
  split at hp
  ·rcases List.mem_singleton.1 hp with rfl
   exact ⟨d, hd, he, rfl⟩
  ·cases hp
theorem b5Q (c : q9) (n t : k6) : ∀ docs : List s7, (docs.flatMap (L9 c n t)).length ≤ docs.length := fun docs => by
 have := a1s (g := L9 c n t) (m := 1) docs (fun d _ => a7t c n t d)
 omega
theorem b0O {docs : List s7} (hp : docs.Pairwise fun a b => a.Id < b.Id) {d : s7} (hd : d ∈ docs) : docs.find? (fun e => e.Id == d.Id) = some d := by
 induction docs with
 | nil => cases hd
 | cons e r ih =>
  have hc := List.pairwise_cons.1 hp
  rw [List.find?_cons]
  rcases List.mem_cons.1 hd with rfl | hd
  ·rw [beq_self_eq_true]
  ·have := hc.1 d hd
   rw [beq_eq_false_iff_ne.2 (by omega)]
   exact ih hc.2 hd
theorem b3x {α : Type} (w : α → Nat) {x : α} : ∀ {l : List α}, x ∈ l → w x ≤ (l.map w).sum
 | y :: l, h => by
  rw [List.map_cons, List.sum_cons]
  rcases List.mem_cons.1 h with rfl | h
  ·omega
  ·have := b3x w h; omega
theorem a9v {c : q9} {docs : List s7} (hd : Z2 docs = true) {n t : k6} {id : Int} (h : (atS (a0i c docs) n t id).length ≠ 0) : a2k (atS (a0i c docs) n t id).length (M8 c docs n id) (a8s c docs n) docs.length (J5 (a0i c docs) n t).length := by
 obtain ⟨d, hm, hid, hat⟩ := b5d h
 obtain ⟨i1, i2, i3⟩ := a2Y hd
 have hdoc := (a2y hd).2
 have h80 : ∀ e ∈ docs, (C9 c (E2 e n)).length ≤ 80 := fun e he => b2y (a35 (hdoc e he) n)
 have hfl : M8 c docs n id = (C9 c (E2 d n)).length := by
  unfold M8
  rw [← hid, b0O i3 hm]; rfl
 have h1 := b3C (c := c) (d := d) n t
 have h2 := h80 d hm
 have h3 : (C9 c (E2 d n)).length ≤ a8s c docs n := b3x (fun d => (C9 c (E2 d n)).length) hm
 have h4 : a8s c docs n ≤ docs.length * 80 := a7n docs h80
 have h5 := List.length_pos_of_mem hm
 have h6 := b5Q c n t docs
 have h7 : 0 < (J5 (a0i c docs) n t).length := by
  unfold atS at h
  cases hf : (J5 (a0i c docs) n t).find? fun p => p.Doc == id with
  | none => rw [hf] at h; exact absurd rfl h
  | some p => exact List.length_pos_of_mem (List.mem_of_find?_eq_some hf)
 rw [a7I] at h7 ⊢
 rw [hat] at h ⊢
 rw [hfl]
 exact ⟨⟨by omega, by omega⟩, ⟨h1, h2⟩, ⟨h3, by omega⟩, ⟨by omega, i1⟩, ⟨h7, h6⟩⟩
end Go.Fk
set_option linter.unusedVariables false
set_option maxRecDepth 100000
namespace Go.Fk
open Go
theorem b1X (F : Nat) (x : N3) (n t : k6) : G6 F x n t = a12 F x.s_ n t := rfl
theorem b73 (F : Nat) (x : N3) (id : Int) : L5 F x id = R1 F x.s_ id := rfl
theorem b3v (F : Nat) (x : N3) (c : q9) (n : k6) (id : Int) : F5 F x c n id = a1n F x.s_ c n id := by
 unfold F5 a1n
 rw [b73]
theorem b0g (F : Nat) (c : q9) (s : z2) (n : k6) (id : Int) (h1 : Q9 c = true) (h2 : Z2 s.Docs = true) (hF : 2000 < F) : a1n F s c n id = some (M8 c s.Docs n id : Int) := by
 unfold a1n M8
 rw [a7z, a8]
 cases hf : s.Docs.find? fun d => d.Id == id with
 | none => rfl
 | some d =>
  have hds := (a2y h2).2 d (List.mem_of_find?_eq_some hf)
  have := a7V F h1 hds n hF
  simp only [Option.elim_some, l5, g8]
  rw [a5z, a8] at this ⊢
  rw [this]; rfl
theorem a4K (F : Nat) (c : q9) (s : z2) (n t : k6) (id : Int) : H3 F ⟨c, s⟩ n t id = some (atS s n t id) := by
 unfold H3 atS
 rw [b1X, a4I, a8]
 rw [a15 (xs := J5 s n t) (fun p => p.Doc == id) (fun p => p.At) (fun i x hx => by
  rw [j8, hx, a8]; cases x.Doc == id <;> rfl)]
 cases (J5 s n t).find? (fun p => p.Doc == id) <;> rfl
theorem b5I {c : q9} {docs : List s7} (hd : Z2 docs = true) (n : k6) {d : s7} (hm : d ∈ docs) : M8 c docs n d.Id = (C9 c (E2 d n)).length := by
 unfold M8
 rw [b0O (a2Y hd).2.2 hm]; rfl
theorem b8f {c : q9} {docs : List s7} (hd : Z2 docs = true) (n : k6) (id : Int) : M8 c docs n id ≤ 80 := by
 unfold M8
 cases hf : docs.find? fun d => d.Id == id with
 | none => exact Nat.zero_le _
 | some d => exact b2y (a35 ((a2y hd).2 d (List.mem_of_find?_eq_some hf)) n)
theorem b6f {c : q9} {docs : List s7} (hd : Z2 docs = true) (n : k6) (i : Nat) : ((docs.take i).map fun d => (C9 c (E2 d n)).length).sum ≤ 16 * 80 := by
 have h1 := a7n (w := fun d => (C9 c (E2 d n)).length) (B := 80) (docs.take i) (fun d hm => by
  have := b8f (c := c) hd n d.Id
  rw [b5I hd n (List.mem_of_mem_take hm)] at this
  exact this)
 have h2 := (a2Y hd).1
 have h3 : (docs.take i).length ≤ docs.length := by rw [List.length_take]; omega
 exact Nat.le_trans h1 (Nat.mul_le_mul_right _ (by omega))
theorem b2S (F : Nat) (c : q9) (docs : List s7) (n : k6) (hd : Z2 docs = true) {f : Nat → Int → Option Int} (h : ∀ (i : Nat) d (s : Int), docs[i]? = some d → f i s = some (u6 (s + (M8 c docs n d.Id : Int)))) : W1 f docs.length 0 (0 : Int) = some ((a8s c docs n : Nat) : Int) := by
 obtain ⟨t, ht, hp⟩ := a3M (σ := Int) (f := f) (fun i s => s = ((((docs.take i).map fun d => (C9 c (E2 d n)).length).sum : Nat) : Int)) docs.length (fun i s hi hs => by
  have hb := b6f (c := c) hd n (i + 1)
  refine ⟨_, h i docs[i] s (i8 hi), ?_⟩
  rw [b5I hd n (List.getElem_mem hi), hs]
  rw [List.take_succ_eq_append_getElem hi, List.map_append, List.sum_append] at hb ⊢
  simp only [List.map_cons, List.map_nil, List.sum_cons, List.sum_nil, Nat.add_zero] at hb ⊢
  exact a4f (by omega)) docs.length 0 0 (by omega) (by simp)
 rw [ht, hp, List.take_length]; rfl
theorem a4L (F : Nat) (c : q9) (s : z2) (n t : k6) (id : Int) (ho : O9 c s = true) (hF : 1000000000 < F) : G1 F ⟨c, s⟩ n t id = some (J4 c s n t id : Int) := by
 obtain ⟨h1, h2, h3⟩ := a2f ho
 unfold G1 J4
 rw [a4K, a8]
 by_cases h0 : (atS s n t id).length = 0
 ·rw [if_pos h0, beq_iff_eq.2 (by omega)]; rfl
 ·rw [if_neg h0, beq_eq_false_iff_ne.2 (by omega), g8]
  dsimp only
  rw [b2S F c s.Docs n h2 (fun i d a hx => by
   rw [j8, hx, a8, b3v, b0g F c s n d.Id h1 h2 (by omega), a8]), a8, a8, b3v, b0g F c s n id h1 h2 (by omega), a8, b1X, a4I, a8]
  have hs : a2k (atS s n t id).length (M8 c s.Docs n id) (a8s c s.Docs n) s.Docs.length (J5 s n t).length := by
   have := a9v (c := c) h2 (n := n) (t := t) (id := id)
   rw [← h3] at this
   exact this h0
  have hu := b2B hs
  have hd := a8t hs
  rw [b4s F _ _ _ _ _ hs hF, a8, a8]
  dsimp only
  rw [b2N F _ _ (by omega) ⟨hd.1, by omega⟩ hF]; rfl
theorem b1c (F : Nat) (s : z2) (n t : k6) (id : Int) (hl : s.Entries.length ≤ 10000) (hp : (J5 s n t).length ≤ 10000) (hF : 20000 < F) : X3 F s n t id = some (atS s n t id) := by
 unfold X3 atS
 rw [a48 F s n t hl hF, a8]
 rw [X9 (xs := J5 s n t) (fun p => p.Doc == id) (fun p => (.inr p.At : Unit ⊕ List Int)) (e := .inl ()) F (by omega) (fun i x hx => ?_) ?_]
 ·cases (J5 s n t).find? (fun p => p.Doc == id) <;> rfl
 ·rw [c6 (by omega)]; rfl
 ·have hi := (d5.1 hx).1
  rw [c7 (by omega), i4, j8, hx, a8, a8, s4 (by omega)]
  cases x.Doc == id <;> rfl
theorem b4b {n : k6} {e : u9} (h : e.Posts.length ≤ 10000 ∧ ∀ p ∈ e.Posts, p.At.length ≤ 10000) : a0I n e ≤ 100000000 := by
 unfold a0I
 split
 ·have := a7n (w := fun p : D5 => p.At.length) e.Posts h.2
  have h2 : e.Posts.length * 10000 ≤ 10000 * 10000 := Nat.mul_le_mul_right _ h.1
  omega
 ·omega
theorem b3b (F : Nat) (s : z2) (n : k6) (h : a3q 10000 s.Entries) (hF : 20000 < F) : Z0 F s n = some (((s.Entries.map (a0I n)).sum : Nat) : Int) := by
 have hl := h.1
 unfold Z0
 rw [(P4 (xs := s.Entries) (fun a e => a + a0I n e) (fun i (a : Nat) => a ≤ i * 100000000) (fun a => (a : Int)) (fun a i => ((a : Int), i)) (s0 := ((0 : Int), (0 : Int))) 0 rfl F (by omega) (by simp) (fun i e a hx ha => ?_) (fun a ha => ?_)).1, a3L]
 ·rw [Nat.zero_add]; rfl
 ·have hi := (d5.1 hx).1
  have hp := h.2 e (j7 hx)
  have hw := b4b (n := n) hp
  have hp1 := hp.1
  refine ⟨?_, by omega⟩
  simp only
  rw [c7 (by omega), i4]
  cases hfn : e.Field == n
  ·have e0 : a0I n e = 0 := by unfold a0I; rw [hfn]; rfl
   obtain ⟨G, rfl⟩ : ∃ G, F = G + 1 := ⟨F - 1, by omega⟩
   rw [r4]
   simp only
   rw [j8, hx]
   simp only [a8, hfn]
   have hz : (bif decide ((0 : Int) < (e.Posts.length : Int)) then some false else some false) = some false := by cases decide ((0 : Int) < (e.Posts.length : Int)) <;> rfl
   rw [hz]
   simp only [a8, g8, Sum.elim_inr]
   rw [s4 (by omega), e0]; rfl
  ·rw [(P4 (xs := e.Posts) (fun a p => a + p.At.length) (fun j (b : Nat) => b ≤ i * 100000000 + j * 10000) (fun a => (a : Int)) (fun a i => ((a : Int), i)) (s0 := ((a : Int), (0 : Int))) a rfl F (by omega) (by rw [Nat.zero_mul, Nat.add_zero]; exact ha) (fun j p b hxj hb => ?_) (fun b hb => ?_)).1, a3L]
   ·rw [a8, a8, s4 (by omega)]
    have : a0I n e = (e.Posts.map fun p => p.At.length).sum := by unfold a0I; rw [hfn]; rfl
    rw [this]
   ·have hj := (d5.1 hxj).1
    have hpa := hp.2 p (j7 hxj)
    refine ⟨?_, by omega⟩
    simp only
    rw [j8, hx]
    simp only [a8, hfn]
    rw [c7 (by omega), i4, a8, i4, j8, hxj, a8, s4 (by omega), a4f (by omega)]
   ·simp only
    rw [j8, hx]
    simp only [a8]
    rw [c6 (by omega)]; rfl
 ·simp only
  rw [c6 (by omega)]; rfl
theorem a49 (F : Nat) (c : q9) (s : z2) (n t : k6) (id : Int) (ho : O9 c s = true) (hF : 1000000000 < F) : N2 F s n t id = some (J4 c s n t id : Int) := by
 obtain ⟨h1, h2, h3⟩ := a2f ho
 have hfit : a3q 10000 s.Entries := by
  have := a6B (c := c) h2
  rw [h3]
  exact ⟨by have := this.1; omega, fun e he => ⟨by have := (this.2 e he).1; omega, fun p hp => by have := (this.2 e he).2 p hp; omega⟩⟩
 have hpl := (a4c ho n t).1
 unfold N2 J4
 rw [b1c F s n t id hfit.1 hpl (by omega), a8]
 by_cases h0 : (atS s n t id).length = 0
 ·rw [if_pos h0, beq_iff_eq.2 (by omega)]; rfl
 ·rw [if_neg h0, beq_eq_false_iff_ne.2 (by omega), g8]
  have hs : a2k (atS s n t id).length (M8 c s.Docs n id) (a8s c s.Docs n) s.Docs.length (J5 s n t).length := by
   have := a9v (c := c) h2 (n := n) (t := t) (id := id)
   rw [← h3] at this
   exact this h0
  have hu := b2B hs
  have hd := a8t hs
  have hsum : (s.Entries.map (a0I n)).sum = a8s c s.Docs n := by
   have := b42 (c := c) (docs := s.Docs) n
   rw [← h3] at this; exact this
  have hlen : (s.Entries.map (a0J n id)).sum = M8 c s.Docs n id := by
   have := b5K (c := c) (a6R h2) n id
   rw [← h3] at this; exact this
  rw [b4O F s n id hfit (by omega), a8, b3b F s n hfit (by omega), a8, a48 F s n t hfit.1 (by omega), a8, hsum, hlen, b4T F _ _ _ _ _ hs hF, a8, a8]
  dsimp only
  rw [b26 _ _ (by omega) ⟨hd.1, by omega⟩]; rfl
theorem a2a (c : q9) (s : z2) (n t : k6) (id : Int) (ho : O9 c s = true) : J4 c s n t id ≤ 1000000000 := by
 obtain ⟨h1, h2, h3⟩ := a2f ho
 unfold J4
 split
 ·omega
 ·rename_i h0
  have hs : a2k (atS s n t id).length (M8 c s.Docs n id) (a8s c s.Docs n) s.Docs.length (J5 s n t).length := by
   have := a9v (c := c) h2 (n := n) (t := t) (id := id)
   rw [← h3] at this
   exact this h0
  have hu := b2B hs
  unfold b5Y b0m
  have a1 : upN (atS s n t id).length s.Docs.length (J5 s n t).length / Nat.gcd (upN (atS s n t id).length s.Docs.length (J5 s n t).length) (a4C (atS s n t id).length (M8 c s.Docs n id) (a8s c s.Docs n) s.Docs.length) ≤ upN (atS s n t id).length s.Docs.length (J5 s n t).length := Nat.div_le_self _ _
  refine Nat.le_trans (Nat.div_le_self _ _) ?_
  omega
end Go.Fk
