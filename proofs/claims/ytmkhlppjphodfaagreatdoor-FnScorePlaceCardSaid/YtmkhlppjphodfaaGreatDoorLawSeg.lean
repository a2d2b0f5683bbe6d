/-
  What the reference makes of documents: the segment. Of no program.
-/
import Derived.Test.YtmkhlppjphodfaaGreatDoorLawOrd
import Derived.Test.YtmkhlppjphodfaaGreatDoorLawTermsA
import Derived.Test.YtmkhlppjphodfaaGreatDoorLawDocs
set_option linter.unusedVariables false
namespace Go.Fk
open Go
theorem b2q (F : Nat) (l : List k6) (s : k6) (hl : l.length ≤ 1000000) (hF : l.length < F) : S9 F l s = some (a2D s l) := by
 unfold S9
 have hw : ∀ f, (∀ (i : Nat) x, l[i]? = some x → f (i : Int) = some (if y5 x s then .inl ((i + 1 : Nat) : Int) else .inr (i : Int))) → f (l.length : Int) = some (.inr (l.length : Int)) → r4 f F (0 : Int) = some ((a1l s l : Nat) : Int) := fun f a b => by
  have := a7K (f := f) a b l.length 0 F (by omega) (by omega)
  rwa [List.drop_zero, Nat.zero_add] at this
 rw [hw _ (fun i x hx => ?_) ?_]
 ·have hr := b12 s l
  have c1 : a2O l 0 ((a1l s l : Nat) : Int) = some (l.take (a1l s l)) := by
   unfold a2O
   rw [if_pos ⟨by omega, by omega, by omega⟩]
   simp
  have c2 : a2O l ((a1l s l : Nat) : Int) (l.length : Int) = some (l.drop (a1l s l)) := a5p hr
  have l1 : (l.take (a1l s l)).length ≤ 1000000 := by simp; omega
  have l2 : (l.drop (a1l s l)).length ≤ 1000000 := by simp; omega
  have l0 : ([] : List k6).length = 0 := rfl
  have hc : (cond (decide (((a1l s l : Nat) : Int) < (l.length : Int))) (Option.bind (n5 l ((a1l s l : Nat) : Int)) fun x57 => some (x57 == s)) (some false)) = some ((l[a1l s l]?).elim false fun x => x == s) := by
   rcases Nat.lt_or_ge (a1l s l) l.length with h | h
   ·rw [c7 (by omega), i4, j8, i8 h]; rfl
   ·rw [c6 (by omega), List.getElem?_eq_none h]; rfl
  rw [a8, a8, hc, a8, b1O, M0]
  cases (l[a1l s l]?).elim false fun x => x == s
  ·simp only [g8]
   rw [c1, a8, G7 (by omega), List.nil_append, a8, G7 (by simp only [k5]; omega), a8, c2, a8,
    G7 (by simp only [k7, k5]; omega), a8]
  ·rfl
 ·rw [c6 (by omega)]; rfl
 ·have hi := (d5.1 hx).1
  rw [c7 (by omega), i4, j8, hx, a8, a8, s4 (by omega)]
  cases y5 x s <;> rfl
def E2 (d : s7) (n : k6) : k6 := (d.Fields.find? fun f => f.Name == n).elim [] (·.Text)
def a5I (a : List k6) (ts : List y9) : List k6 := ts.foldl (fun a t => a2D t.Text a) a
def S5 (docs : List s7) : List k6 := docs.foldl (fun a d => d.Fields.foldl (fun a f => a2D f.Name a) a) []
def G4 (c : q9) (docs : List s7) (n : k6) : List k6 := docs.foldl (fun a d => a5I a (C9 c (E2 d n))) []
def Z9 (c : q9) (d : s7) (n t : k6) : List Int := (C9 c (E2 d n)).flatMap fun x => if x.Text == t then [x.At] else []
def L9 (c : q9) (n t : k6) (d : s7) : List D5 := if decide (0 < (Z9 c d n t).length) then [⟨d.Id, Z9 c d n t⟩] else []
def H2 (c : q9) (docs : List s7) (n t : k6) : u9 := ⟨n, t, docs.flatMap (L9 c n t)⟩
def a0i (c : q9) (docs : List s7) : z2 := ⟨docs, (S5 docs).flatMap fun n => (G4 c docs n).map (H2 c docs n)⟩
theorem a6U {d : s7} (hd : a4v d) (n : k6) : (E2 d n).length ≤ 1000 := by
 unfold E2
 cases h : d.Fields.find? fun f => f.Name == n with
 | none => simp
 | some f => exact (hd.field f (List.mem_of_find?_eq_some h)).2
theorem a9C (F : Nat) (d : s7) (n : k6) (hd : a4v d) (hF : 200 < F) : V7 F d n = some (E2 d n) := by
 have h1 := hd.fields
 unfold V7
 rw [X9 (xs := d.Fields) (fun f => f.Name == n) (fun f => (Sum.inr f.Text : Unit ⊕ k6)) (e := Sum.inl ()) F (by omega) (fun i x hx => ?_) ?_]
 ·unfold E2
  cases d.Fields.find? fun f => f.Name == n <;> rfl
 ·rw [c6 (by omega)]; rfl
 ·have hi := (d5.1 hx).1
  rw [c7 (by omega), i4, j8, hx, a8, a8, s4 (by omega), M0]
  cases x.Name == n <;> rfl
theorem a9E (F : Nat) (docs : List s7) (hd : X0 docs) (hF : 200000 < F) : a0G F docs = some (S5 docs) ∧ (S5 docs).length ≤ 10000 := by
 have hfew := hd.few
 unfold a0G S5
 have key := P4 (xs := docs) (fun a d => d.Fields.foldl (fun a f => a2D f.Name a) a) (fun i (a : List k6) => a.length ≤ i * 100) id (fun a i => (a, i))
  (f := fun s22 => (cond (decide (s22.2 < (docs.length : Int))) (Option.bind ((Option.bind (r4 (σ := (List k6) × Int) (τ := (List k6)) (fun (s51 : (List k6) × Int) => (Option.bind (n5 docs s22.2) fun x67 => (cond (decide (s51.2 < (x67.Fields.length : Int))) (Option.bind (n5 docs s22.2) fun x87 => (Option.bind (n5 x87.Fields s51.2) fun x105 => (Option.bind (S9 F s51.1 x105.Name) fun r116 => (some (.inl (r116, (u6 (s51.2 + (1 : Int))))))))) (some (.inr s51.1))))) F (s22.1, (0 : Int))) fun r52 => (some r52)) : Option (List k6)) fun o40 => (some (.inl (o40, (u6 (s22.2 + (1 : Int))))))) (some (.inr s22.1))))
  [] rfl F (by omega) (by simp) (fun i d a hx ha => ?_) (fun a ha => ?_)
 ·obtain ⟨k1, k2⟩ := key
  refine ⟨?_, ?_⟩
  ·rw [k1]; rfl
  ·have : docs.length * 100 ≤ 10000 := by omega
   omega
 ·have hi := (d5.1 hx).1
  have hdd := hd.doc d (j7 hx)
  have hfl := hdd.fields
  have inner := P4 (xs := d.Fields) (fun a (f : I5) => a2D f.Name a) (fun j (b : List k6) => b.length ≤ i * 100 + j) id (fun a i => (a, i))
   (f := fun (s51 : (List k6) × Int) => (Option.bind (n5 docs (i : Int)) fun x67 => (cond (decide (s51.2 < (x67.Fields.length : Int))) (Option.bind (n5 docs (i : Int)) fun x87 => (Option.bind (n5 x87.Fields s51.2) fun x105 => (Option.bind (S9 F s51.1 x105.Name) fun r116 => (some (.inl (r116, (u6 (s51.2 + (1 : Int))))))))) (some (.inr s51.1)))))
   a rfl F (by omega) (by omega) (fun j f b hf hb => ?_) (fun b hb => ?_)
  ·obtain ⟨k1, k2⟩ := inner
   refine ⟨?_, by omega⟩
   simp only
   rw [c7 (by omega), i4, k1, a8, a8, s4 (by omega)]
   rfl
  ·have hj := (d5.1 hf).1
   have hil := a6l f.Name b
   refine ⟨?_, by omega⟩
   simp only
   rw [j8, hx, a8, c7 (by omega), i4, a8, j8, hf, a8, b2q F b _ (by omega) (by omega), a8, s4 (by omega)]
  ·simp only
   rw [j8, hx, a8, c6 (by omega)]; rfl
 ·simp only
  rw [c6 (by omega)]; rfl
theorem a6j {α σ : Type} {g : σ → α → σ} (I : Nat → σ → Prop) : ∀ (xs : List α) (i : Nat) (s : σ), I i s → (∀ i x s, x ∈ xs → I i s → I (i + 1) (g s x)) → I (i + xs.length) (xs.foldl g s)
 | [], i, s, h, _ => h
 | x :: r, i, s, h, hg => by
  rw [List.foldl_cons, l4, show i + (r.length + 1) = i + 1 + r.length by omega]
  exact a6j I r (i + 1) _ (hg i x s (by simp) h) fun i y s hy => hg i y s (by simp [hy])
theorem b10 (ts : List y9) (a : List k6) : (a5I a ts).length ≤ a.length + ts.length := by
 have := a6j (g := fun a (t : y9) => a2D t.Text a) (fun i b => b.length ≤ a.length + i) ts 0 a (by omega) (fun i t b _ hb => by have := a6l t.Text b; show (a2D t.Text b).length ≤ _; omega)
 unfold a5I; omega
theorem a5j {c : q9} {d : s7} (hd : a4v d) (n : k6) : (C9 c (E2 d n)).length ≤ 1000 := by
 have := a1F c (E2 d n)
 have := a6U hd n
 omega
theorem a8Y (c : q9) {docs : List s7} (hd : X0 docs) (n : k6) : (G4 c docs n).length ≤ 100000 := by
 have hfew := hd.few
 have := a6j (g := fun a d => a5I a (C9 c (E2 d n))) (fun i b => b.length ≤ i * 1000) docs 0 [] (by simp) (fun i d b hm hb => by have := b10 (C9 c (E2 d n)) b; have := a5j (c := c) (hd.doc d hm) n; show (a5I b _).length ≤ _; omega)
 unfold G4; omega
theorem b2n (F : Nat) (c : q9) (docs : List s7) (n : k6) (hc : Q9 c = true) (hd : X0 docs) (hF : 200000 < F) : a0H F c docs n = some (G4 c docs n) := by
 have hfew := hd.few
 unfold a0H G4
 rw [(P4 (xs := docs) (fun a d => a5I a (C9 c (E2 d n))) (fun i (a : List k6) => a.length ≤ i * 1000) id (fun a i => (a, i)) [] rfl F (by omega) (by simp) (fun i d a hx ha => ?_) (fun a ha => ?_)).1]
 ·rfl
 ·have hi := (d5.1 hx).1
  have hdd := hd.doc d (j7 hx)
  have hfl := a6U hdd n
  have hone := a5j (c := c) hdd n
  refine ⟨?_, ?_⟩
  ·simp only
   rw [c7 (by omega), i4, j8, hx, a8, a9C F d n hdd (by omega), a8, a4d F c _ hc (by omega) (by omega), a8]
   rw [(P4 (xs := C9 c (E2 d n)) (fun a (t : y9) => a2D t.Text a) (fun j (b : List k6) => b.length ≤ i * 1000 + j) id (fun a i => (a, i)) a rfl F (by omega) (by rw [Nat.add_zero]; exact ha) (fun j t b ht hb => ?_) (fun b hb => ?_)).1, a8, a8, s4 (by omega)]
   ·rfl
   ·have hj := (d5.1 ht).1
    have hil := a6l t.Text b
    refine ⟨?_, by omega⟩
    simp only
    rw [c7 (by omega), i4, j8, ht, a8, b2q F b _ (by omega) (by omega), a8, s4 (by omega)]
   ·simp only
    rw [c6 (by omega)]; rfl
  ·have := b10 (C9 c (E2 d n)) a
   omega
 ·simp only
  rw [c6 (by omega)]; rfl
theorem b5P {c : q9} {d : s7} (hd : a4v d) (n t : k6) : (Z9 c d n t).length ≤ 1000 := by
 have h1 := a1s (g := fun x : y9 => if x.Text == t then [x.At] else []) (m := 1) (C9 c (E2 d n)) (fun x _ => by split <;> simp)
 have h2 := a5j (c := c) hd n
 unfold Z9; omega
theorem b4R (F : Nat) (c : q9) (d : s7) (n t : k6) (hc : Q9 c = true) (hd : a4v d) (hF : 200000 < F) : a1i F c d n t = some (Z9 c d n t) := by
 have hfl := a6U hd n
 have hone := a5j (c := c) hd n
 have hpl := b5P (c := c) hd n t
 unfold a1i
 rw [a9C F d n hd (by omega), a8, a4d F c _ hc (by omega) (by omega), a8]
 rw [a8W (xs := C9 c (E2 d n)) (fun x : y9 => if x.Text == t then [x.At] else []) 1000 F (by omega) (fun i x acc hx hB => ?_) (fun acc => ?_) [] (by rw [List.nil_append]; exact hpl), List.nil_append, a8, a8]
 ·rfl
 ·have hi := (d5.1 hx).1
  rw [c7 (by omega), i4, j8, hx, a8, a8, s4 (by omega)]
  revert hB
  rw [M0]
  cases x.Text == t
  ·intro _; simp
  ·intro hB
   simp only [i4] at hB ⊢
   rw [G7 (by simp at hB ⊢; omega)]; rfl
 ·rw [c6 (by omega)]; rfl
theorem a7t (c : q9) (n t : k6) (d : s7) : (L9 c n t d).length ≤ 1 := by unfold L9; split <;> simp
theorem b24 (F : Nat) (c : q9) (docs : List s7) (n t : k6) (hc : Q9 c = true) (hd : X0 docs) (hF : 200000 < F) : a0F F c docs n t = some (H2 c docs n t) := by
 have hfew := hd.few
 unfold a0F
 have hfold : H2 c docs n t = docs.foldl (fun e d => u9.mk e.Field e.Term (e.Posts ++ L9 c n t d)) (u9.mk n t []) := by
  have gen : ∀ (l : List s7) (ps : List D5), l.foldl (fun e d => u9.mk e.Field e.Term (e.Posts ++ L9 c n t d)) (u9.mk n t ps) = u9.mk n t (ps ++ l.flatMap (L9 c n t)) := by
   intro l
   induction l with
   | nil => intro ps; simp
   | cons d r ih => intro ps; rw [List.foldl_cons, ih, List.flatMap_cons, List.append_assoc]
  rw [gen]; rfl
 rw [hfold]
 rw [(P4 (xs := docs) (fun e d => u9.mk e.Field e.Term (e.Posts ++ L9 c n t d)) (fun i (e : u9) => e.Posts.length ≤ i ∧ e.Field = n ∧ e.Term = t) id (fun e i => (i, e)) (u9.mk n t []) rfl F (by omega) ⟨by simp, rfl, rfl⟩ (fun i d e hx ⟨he, e1, e2⟩ => ?_) (fun a ha => ?_)).1]
 ·rfl
 ·have hi := (d5.1 hx).1
  have hdd := hd.doc d (j7 hx)
  have hp1 := a7t c n t d
  refine ⟨?_, by simp only [k7]; omega, e1, e2⟩
  simp only
  rw [c7 (by omega), i4, j8, hx, a8, b4R F c d n t hc hdd hF, a8, a8, s4 (by omega)]
  unfold L9
  by_cases h0 : 0 < (Z9 c d n t).length
  ·rw [c7 (by omega), i4, G7 (by simp only [k5]; omega), a8, c7 h0, if_pos rfl]
  ·rw [c6 (by omega), g8, c6 h0, if_neg (by simp), List.append_nil]
 ·simp only
  rw [c6 (by omega)]; rfl
theorem b0o {docs : List s7} (hd : X0 docs) : (S5 docs).length ≤ 10000 := (a9E 200001 docs hd (by omega)).2
theorem b50 {c : q9} {docs : List s7} {ns : List k6} : ∀ (l : List k6) (es : List u9), l.foldl (fun s n => (G4 c docs n).foldl (fun s t => z2.mk s.Docs (s.Entries ++ [H2 c docs n t])) s) (z2.mk [] es) = z2.mk [] (es ++ l.flatMap fun n => (G4 c docs n).map (H2 c docs n)) := by
 intro l
 induction l with
 | nil => intro es; simp
 | cons n r ih =>
  intro es
  have inner : ∀ (ts : List k6) (es : List u9), ts.foldl (fun s t => z2.mk s.Docs (s.Entries ++ [H2 c docs n t])) (z2.mk [] es) = z2.mk [] (es ++ ts.map (H2 c docs n)) := by
   intro ts
   induction ts with
   | nil => intro es; simp
   | cons t r ih => intro es; rw [List.foldl_cons, ih, List.map_cons, List.append_assoc]; rfl
  rw [List.foldl_cons, inner, ih, List.flatMap_cons, List.append_assoc]
theorem b39 {es : List u9} : ∀ (l ds : List s7), l.foldl (fun s d => z2.mk (s.Docs ++ [d]) s.Entries) (z2.mk ds es) = z2.mk (ds ++ l) es := by
 intro l
 induction l with
 | nil => intro ds; simp
 | cons d r ih => intro ds; rw [List.foldl_cons, ih, List.append_assoc]; rfl
theorem b2r (F : Nat) (c : q9) (docs : List s7) (hc : Q9 c = true) (hd : X0 docs) (hF : 200000 < F) : a1B F c docs = some (a0i c docs) := by
 have hfew := hd.few
 have hnl := b0o hd
 unfold a1B
 rw [(a9E F docs hd hF).1, a8]
 rw [(P4 (xs := S5 docs) (fun s n => (G4 c docs n).foldl (fun s t => z2.mk s.Docs (s.Entries ++ [H2 c docs n t])) s) (fun i (s : z2) => s.Entries.length ≤ i * 100000) id (fun e i => (i, e)) (z2.mk [] []) rfl F (by omega) (by simp) (fun i n s hx hs => ?_) (fun a ha => ?_)).1]
 ·rw [b50 (ns := []), a8, a8]
  rw [(P4 (xs := docs) (fun s d => z2.mk (s.Docs ++ [d]) s.Entries) (fun i (s : z2) => s.Docs.length ≤ i) id (fun e i => (i, e)) _ rfl F (by omega) (by simp) (fun i d s hx hs => ?_) (fun a ha => ?_)).1]
  ·rw [b39, a8, a8]; rfl
  ·have hi := (d5.1 hx).1
   have hdd := hd.doc d (j7 hx)
   have hf1 := hdd.fields
   have hf2 := hdd.nums
   refine ⟨?_, by simp only [k7, k5]; omega⟩
   simp only
   rw [c7 (by omega), i4, j8, hx, a8, b22 F d (by omega) (by omega), a8, G7 (by simp only [k5]; omega), a8, s4 (by omega)]
  ·simp only
   rw [c6 (by omega)]; rfl
 ·have hi := (d5.1 hx).1
  have hft := a8Y c hd n
  have inner := a6j (g := fun s t => z2.mk s.Docs (s.Entries ++ [H2 c docs n t])) (fun j (b : z2) => b.Entries.length ≤ i * 100000 + j) (G4 c docs n) 0 s (by rw [Nat.add_zero]; exact hs) (fun j t b _ hb => by simp only [k7, k5]; omega)
  refine ⟨?_, by omega⟩
  simp only
  rw [c7 (by omega), i4, j8, hx, a8, b2n F c docs n hc hd hF, a8]
  rw [(P4 (xs := G4 c docs n) (fun s t => z2.mk s.Docs (s.Entries ++ [H2 c docs n t])) (fun j (b : z2) => b.Entries.length ≤ i * 100000 + j) id (fun e i => (i, e)) s rfl F (by omega) (by rw [Nat.add_zero]; exact hs) (fun j t b ht hb => ?_) (fun b hb => ?_)).1, a8, a8, s4 (by omega)]
  ·rfl
  ·have hj := (d5.1 ht).1
   refine ⟨?_, by simp only [k7, k5]; omega⟩
   simp only
   rw [c7 (by omega), i4, a8, j8, ht, a8, b24 F c docs n t hc hd hF, a8, G7 (by simp only [k5]; omega), a8, s4 (by omega)]
  ·simp only
   rw [c6 (by omega)]; rfl
 ·simp only
  rw [c6 (by omega)]; rfl
end Go.Fk
