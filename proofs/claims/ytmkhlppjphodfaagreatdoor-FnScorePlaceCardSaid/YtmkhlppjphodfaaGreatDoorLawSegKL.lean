import Derived.Test.YtmkhlppjphodfaaGreatDoorLawSegIJ
/-
  The program's segment is the reference's. Of no program.
-/
set_option linter.unusedVariables false
namespace Go.Fk
open Go
theorem b8m (F : Nat) (a b : Int) : a1I F [a, b] = some (if a = 0 then b else a) := by
 unfold a1I
 simp only [l4, List.length_nil, A1]
 have g0 : n5 [a, b] ((0 : Nat) : Int) = some a := rfl
 have g1 : n5 [a, b] ((0 + 1 : Nat) : Int) = some b := rfl
 rw [g0]
 by_cases h : a = 0
 ·subst h
  simp only [a8, beq_self_eq_true, l5, g8, Sum.elim_inl]
  rw [g1]
  by_cases hb : b = 0
  ·subst hb; rfl
  ·rw [a8, beq_eq_false_iff_ne.2 hb]; rfl
 ·rw [a8, beq_eq_false_iff_ne.2 h, if_neg h]; rfl
def b8n (a b : u9) : Int := if a9Q a.Field b.Field = 0 then a9Q a.Term b.Term else a9Q a.Field b.Field
theorem b3B (F : Nat) (a b : u9) : O0 F a b = some (b8n a b) := by
 unfold O0
 rw [b3q, a8, b3q, a8, b8m]; rfl
theorem b1s (x y : k6) : a9Q x y < 0 ↔ y5 x y = true := by
 unfold a9Q
 cases y5 x y
 ·cases x == y <;> simp
 ·simp
theorem a96 (x y : k6) : a9Q x y = 0 ↔ x = y := by
 unfold a9Q
 cases h : y5 x y
 ·cases h2 : x == y
  ·have := beq_eq_false_iff_ne.1 h2
   simp [this]
  ·have := eq_of_beq h2
   simp [this]
 ·rw [if_pos rfl]
  refine ⟨fun e => by omega, fun e => ?_⟩
  subst e; rw [a0e] at h; cases h
theorem b6W (F : Nat) (a b : u9) : ltO (fun a b => O0 F a b) a b = ltE a b := by
 show decide ((O0 F a b).getD 0 < 0) = _
 rw [b3B]
 show decide (b8n a b < 0) = _
 rw [Bool.eq_iff_iff, decide_eq_true_iff, a2L]
 unfold b8n
 by_cases h : a9Q a.Field b.Field = 0
 ·rw [if_pos h, b1s]
  have e := (a96 _ _).1 h
  rw [e, a0e]; simp
 ·rw [if_neg h, b1s]
  have e : a.Field ≠ b.Field := fun e => h ((a96 _ _).2 e)
  simp [e]
def a3q (B : Nat) (es : List u9) : Prop := es.length ≤ B ∧ ∀ e ∈ es, e.Posts.length ≤ B ∧ ∀ p ∈ e.Posts, p.At.length ≤ B
theorem a56 {B : Nat} {ps : List D5} {id a : Int} (h : ps.length ≤ B ∧ ∀ p ∈ ps, p.At.length ≤ B) : (N6 ps id a).length ≤ B + 1 ∧ ∀ p ∈ N6 ps id a, p.At.length ≤ B + 1 := by
 obtain ⟨h1, h2⟩ := h
 cases hn : I8 ps id
 ·rcases List.eq_nil_or_concat ps with rfl | ⟨qs, p, rfl⟩
  ·simp [I8] at hn
  ·have e : N6 (qs.concat p) id a = qs ++ [D5.mk p.Doc (p.At ++ [a])] := by
    unfold N6; rw [hn]; simp
   rw [e]
   simp only [List.concat_eq_append, k7, k5] at h1 h2 ⊢
   refine ⟨by omega, fun q hq => ?_⟩
   rcases List.mem_append.1 hq with hq | hq
   ·have := h2 q (by simp [hq]); omega
   ·rw [List.mem_singleton] at hq; subst hq
    have := h2 p (by simp)
    simp only [k7, k5]; omega
 ·rw [a7r hn]
  refine ⟨by simp only [k7, k5]; omega, fun q hq => ?_⟩
  rcases List.mem_append.1 hq with hq | hq
  ·have := h2 q hq; omega
  ·rw [List.mem_singleton] at hq; subst hq; simp
theorem b5R {B : Nat} {o : Occ} : ∀ {es : List u9}, a3q B es → a3q (B + 1) (a3T o es) := by
 intro es h
 have hl : ∀ es : List u9, (a3T o es).length ≤ es.length + 1 := by
  intro es
  induction es with
  | nil => simp [a3T]
  | cons e r ih => unfold a3T; split <;> simp only [l4] <;> omega
 refine ⟨by have := hl es; have := h.1; omega, ?_⟩
 have gen : ∀ es : List u9, (∀ e ∈ es, e.Posts.length ≤ B ∧ ∀ p ∈ e.Posts, p.At.length ≤ B) → ∀ e ∈ a3T o es, e.Posts.length ≤ B + 1 ∧ ∀ p ∈ e.Posts, p.At.length ≤ B + 1 := by
  intro es
  induction es with
  | nil =>
   intro _ e he
   rw [a3T, List.mem_singleton] at he; subst he
   exact a56 (B := B) (ps := []) ⟨Nat.zero_le _, fun p hp => by cases hp⟩
  | cons x r ih =>
   intro hx e he
   unfold a3T at he
   split at he
   ·rcases List.mem_cons.1 he with rfl | he
    ·exact a56 (hx x (by simp))
    ·have := hx e (by simp [he]); exact ⟨by omega, fun p hp => by have := this.2 p hp; omega⟩
   ·rcases List.mem_cons.1 he with rfl | he
    ·have := hx e (by simp); exact ⟨by omega, fun p hp => by have := this.2 p hp; omega⟩
    ·exact ih (fun y hy => hx y (by simp [hy])) e he
 exact gen es h.2
def a23 (n t : k6) (e : u9) : Bool := e.Field == n && e.Term == t
theorem b3G (o : Occ) : ∀ es : List u9, a3T o es = match es.findIdx? (a23 o.1.1 o.1.2) with
  | none => es ++ [⟨o.1.1, o.1.2, N6 [] o.2.1 o.2.2⟩]
  | some j => (es[j]?).elim es fun e => es.set j ⟨e.Field, e.Term, N6 e.Posts o.2.1 o.2.2⟩
 | [] => rfl
 | e :: r => by
  have ih := b3G o r
  rw [a3T, List.findIdx?_cons]
  have hk : a23 o.1.1 o.1.2 e = (e.Field == o.1.1 && e.Term == o.1.2) := rfl
  rw [hk, M0, M0]
  cases (e.Field == o.1.1 && e.Term == o.1.2)
  ·simp only [g8]
   rw [ih]
   cases r.findIdx? (a23 o.1.1 o.1.2) with
   | none => rfl
   | some j =>
    simp only [Option.map_some, List.getElem?_cons_succ]
    cases r[j]? <;> rfl
  ·rfl
theorem b2M (F : Nat) (es : List u9) (n : k6) (t : y9) : C7 F es n t = some ((es.findIdx? (a23 n t.Text)).elim (-1 : Int) fun j => (j : Int)) := by
 unfold C7
 rw [b1K (a23 n t.Text) (fun i x hx => ?_)]
 ·cases es.findIdx? (a23 n t.Text) <;> rfl
 ·rw [j8, hx, a8]
  unfold a0T
  have : (cond (x.Field == n) (some (x.Term == t.Text)) (some false) : Option Bool) = some (a23 n t.Text x) := by
   unfold a23; cases x.Field == n <;> rfl
  rw [this, a8, M0]
  cases a23 n t.Text x <;> rfl
theorem b5D (F B : Nat) (docs : List s7) (es : List u9) (n : k6) (t : y9) (id : Int) (h : a3q B es) (hB : B ≤ 1000000) : a0s F ⟨docs, es⟩ n t id = some ⟨docs, a3T ((n, t.Text), (id, t.At)) es⟩ := by
 have h1 := h.1
 have hpost : ∀ ps : List D5, (ps.length ≤ B ∧ ∀ p ∈ ps, p.At.length ≤ B) → ∃ p at_, (cond (I8 ps id) (L8 32 ps [D5.mk id []]) (some ps)) = some (if I8 ps id then ps ++ [D5.mk id []] else ps) ∧ (if I8 ps id then ps ++ [D5.mk id []] else ps).getLast? = some p ∧
   L8 8 p.At [t.At] = some at_ ∧ N6 ps id t.At = (if I8 ps id then ps ++ [D5.mk id []] else ps).dropLast ++ [D5.mk p.Doc at_] := fun ps ⟨g1, g2⟩ => by
  cases hn : I8 ps id
  ·rcases List.eq_nil_or_concat ps with rfl | ⟨qs, p, rfl⟩
   ·simp [I8] at hn
   ·have := g2 p (by simp)
    refine ⟨p, p.At ++ [t.At], rfl, by simp, G7 (by simp only [k5]; omega), ?_⟩
    unfold N6; rw [hn]; simp
  ·refine ⟨D5.mk id [], [t.At], ?_, by simp, G7 (by simp), ?_⟩
   ·rw [i4, G7 (by simp only [k5]; omega)]; rfl
   ·unfold N6; rw [hn]; simp
 unfold a0s
 rw [b2M, a8, b3G]
 cases hf : es.findIdx? (a23 n t.Text) with
 | none =>
  obtain ⟨p, at_, e1, e2, e3, e4⟩ := hpost [] ⟨by simp, by simp⟩
  rw [show (Option.elim (none : Option Nat) (-1 : Int) fun j => (j : Int)) = -1 from rfl]
  rw [c7 (by decide), i4, i4]
  dsimp only
  rw [G7 (by simp only [k5]; omega), a8, j8, List.getElem?_append_right (Nat.le_refl _), Nat.sub_self]
  simp only [List.getElem?_cons_zero, a8]
  rw [e1, a8, e2, a8, e3, a8, ← e4]
  simp
 | some j =>
  have hj := (List.findIdx?_eq_some_iff_getElem.1 hf).1
  have hfit := h.2 es[j] (List.getElem_mem hj)
  obtain ⟨p, at_, e1, e2, e3, e4⟩ := hpost es[j].Posts hfit
  rw [show (Option.elim (some j) (-1 : Int) fun j => (j : Int)) = (j : Int) from rfl]
  rw [c6 (by omega), g8, g8]
  dsimp only
  rw [a8, j8, i8 hj, a8, e1, a8, e2, a8, e3, a8, ← e4]
  rfl
end Go.Fk
set_option linter.unusedVariables false
namespace Go.Fk
open Go
theorem b1p {α : Type} {lt : α → α → Bool} (tr : ∀ {a b c}, lt a b = true → lt b c = true → lt a c = true) : ∀ l : List α, (∀ i, (hi : i + 1 < l.length) → lt l[i] l[i + 1] = true) → l.Pairwise fun a b => lt a b = true
 | [], _ => List.Pairwise.nil
 | a :: l, hl => by
  have ih' := b1p (lt := lt) tr l (fun i hi => by have := hl (i + 1) (by simp only [l4]; omega); simpa using this)
  refine List.pairwise_cons.2 ⟨fun c hc => ?_, ih'⟩
  cases l with
  | nil => cases hc
  | cons b l =>
   have hab : lt a b = true := hl 0 (by simp)
   rcases List.mem_cons.1 hc with rfl | hc
   ·exact hab
   ·exact tr hab ((List.pairwise_cons.1 ih').1 c hc)
theorem a2X {d : s7} (h : a2x d = true) : (a1D a2J a2m d.Fields = true ∧ a1D a30 a4A d.Nums = true) ∧ d.Fields.length ≤ 3 ∧ d.Nums.length ≤ 3 := by
 unfold a2x at h
 simp only [l6, decide_eq_true_iff] at h
 exact ⟨h.1, by omega, by omega⟩
theorem a6I {s : k6} (h : a0P s = true) : s.length ≤ 160 := by
 unfold a0P at h
 simp only [l6, decide_eq_true_iff] at h
 omega
theorem a5h {d : s7} (h : a2x d = true) {f : I5} (hf : f ∈ d.Fields) : C4 f.Name = true ∧ a0P f.Text = true := by
 have := (a3b (a2X h).1.1).1 f hf
 unfold a2J at this
 simpa using this
theorem b6z {d : s7} (h : a2x d = true) : a4v d := by
 obtain ⟨⟨h1, h2⟩, h3, h4⟩ := a2X h
 refine ⟨by omega, by omega, fun f hf => ?_, fun a ha => ?_⟩
 ·obtain ⟨k1, k2⟩ := a5h h hf
  have := a6I k2
  have := Q4 k1
  omega
 ·have := (a3b h2).1 a ha
  unfold a30 at this
  simp only [l6] at this
  have := Q4 this.1
  omega
theorem b38 {d : s7} (h : a2x d = true) : d.Fields.Pairwise fun f g => f.Name ≠ g.Name := by
 have h1 := b1p (lt := a2m) (fun {a b c} k1 k2 => a3W k1 k2) d.Fields (a3b (a2X h).1.1).2
 refine h1.imp fun {a b} k e => ?_
 unfold a2m at k
 rw [e, a0e] at k; cases k
theorem a2y {docs : List s7} (h : Z2 docs = true) : docs.length ≤ 16 ∧ ∀ d ∈ docs, a2x d = true := by
 unfold Z2 at h
 rw [l6, decide_eq_true_iff] at h
 exact ⟨by omega, (a3b h.1).1⟩
theorem b1B {docs : List s7} (h : Z2 docs = true) : X0 docs := ⟨by have := (a2y h).1; omega, fun d hd => b6z ((a2y h).2 d hd)⟩
theorem a6R {docs : List s7} (h : Z2 docs = true) : a52 docs := ⟨(a2Y h).2.2, fun d hd => b38 ((a2y h).2 d hd)⟩
theorem a3K {α σ : Type} {xs : List α} {g : σ → α → σ} {I : Nat → σ → Prop} {f : Nat → σ → Option σ} (h : ∀ i x s, xs[i]? = some x → I i s → f i s = some (g s x) ∧ I (i + 1) (g s x)) : ∀ k i s, i + k = xs.length → I i s → W1 f k i s = some ((xs.drop i).foldl g s)
 | 0, i, s, e, _ => by rw [W1, List.drop_of_length_le (by omega)]; rfl
 | k + 1, i, s, e, hI => by
  have hi : i < xs.length := by omega
  obtain ⟨h1, h2⟩ := h i xs[i] s (i8 hi) hI
  rw [W1, h1, List.drop_eq_getElem_cons hi, a8, List.foldl_cons]
  exact a3K h k (i + 1) _ (by omega) h2
theorem a3u {α σ : Type} {xs : List α} (g : σ → α → σ) (I : Nat → σ → Prop) {f : Nat → σ → Option σ} (s : σ) (hI : I 0 s) (h : ∀ i x s, xs[i]? = some x → I i s → f i s = some (g s x) ∧ I (i + 1) (g s x)) : W1 f xs.length 0 s = some (xs.foldl g s) := by
 have := a3K h xs.length 0 s (by omega) hI
 rwa [List.drop_zero] at this
def a3d (es : List u9) (os : List Occ) : List u9 := os.foldl (fun es o => a3T o es) es
theorem a1E {B : Nat} : ∀ (os : List Occ) {es : List u9}, a3q B es → a3q (B + os.length) (a3d es os)
 | [], es, h => h
 | o :: os, es, h => by
  have := a1E os (b5R (o := o) h)
  rw [l4, show B + (os.length + 1) = B + 1 + os.length by omega]
  exact this
theorem a3q.le {B B' : Nat} {es : List u9} (h : a3q B es) (hle : B ≤ B') : a3q B' es :=
 ⟨Nat.le_trans h.1 hle, fun e he => ⟨Nat.le_trans (h.2 e he).1 hle, fun p hp => Nat.le_trans ((h.2 e he).2 p hp) hle⟩⟩
theorem a3n {α : Type} (h : α → List Occ) (docs : List s7) : ∀ (l : List α) (es : List u9), l.foldl (fun s x => z2.mk s.Docs (a3d s.Entries (h x))) (z2.mk docs es) = z2.mk docs (a3d es (l.flatMap h))
 | [], es => rfl
 | x :: l, es => by
  rw [List.foldl_cons, a3n h docs l, List.flatMap_cons]
  unfold a3d
  rw [List.foldl_append]
theorem b1L (F : Nat) (docs : List s7) (h : X0 docs) : U7 F docs = some docs := by
 have hfew := h.few
 unfold U7
 rw [a8A (fun d : s7 => [d]) 1000 (fun i d acc hx hB => ?_) [] (by simp; omega)]
 ·simp
 ·have hdd := h.doc d (j7 hx)
  have h1 := hdd.fields
  have h2 := hdd.nums
  rw [j8, hx, a8, a80 F d (by omega) (by omega), a8, G7 (by simp at hB ⊢; omega)]; rfl
theorem b3A {c : q9} {id : Int} {f : I5} (h : a0P f.Text = true) : (a1j c id f).length ≤ 160 := by
 have := a1F c f.Text
 have := a6I h
 unfold a1j
 rw [List.length_map]; omega
theorem a5L {c : q9} {d : s7} (h : a2x d = true) : (a33 c d).length ≤ 480 := by
 have h1 := a1s (g := a1j c d.Id) (m := 160) d.Fields fun f hf => b3A (a5h h hf).2
 have h2 := (a2X h).2.1
 have : d.Fields.length * 160 ≤ 480 := by omega
 unfold a33; omega
def b5Z (c : q9) (docs : List s7) : z2 := if Q9 c && Z2 docs then a0i c docs else ⟨[], []⟩
theorem b2Q (F : Nat) (c : q9) (docs : List s7) (hd : docs.length < 9000000000000000000) (hc : c.Stops.length ≤ 2000000) (hF : 1000 < F) : a1K F c docs = some (b5Z c docs) := by
 unfold a1K b5Z
 rw [a6V F c hc (by omega), a8]
 cases hcs : Q9 c
 ·rfl
 rw [l5, g8, b0f F docs hd, a8, a8, l7]
 cases hds : Z2 docs
 ·rfl
 have hall := a2y hds
 rw [l5, g8, if_pos rfl, b1L F docs (b1B hds), a8]
 rw [a3u (xs := docs) (fun s d => z2.mk s.Docs (a3d s.Entries (a33 c d))) (fun i s => s.Docs = docs ∧ a3q (i * 480) s.Entries) ⟨docs, []⟩ ⟨rfl, by simp [a3q]⟩ (fun i d s hx ⟨e, hs⟩ => ?_)]
 ·rw [a3n, a8, a8]
  have hocc : docs.flatMap (a33 c) = a2E c docs := rfl
  have hfin : a3q 7680 (a3d [] (a2E c docs)) := by
   have hl := a1s (g := a33 c) (m := 480) docs fun d hd => a5L (hall.2 d hd)
   have hl2 := hall.1
   have := a1E (B := 0) (a2E c docs) (es := []) (by simp [a3q])
   exact this.le (by unfold a2E; omega)
  rw [hocc]
  have hput : a3d [] (a2E c docs) = (R7 (a2E c docs)).map (mkE (a2E c docs)) := b1Y _
  rw [b55 (t := (a0i c docs).Entries) (b6W F) (fun a b => by rw [b3B]; rfl) b0X b8i b8g (by rw [hput]; exact a83 _) (a7N c docs) (fun x => by rw [hput]; exact b1S (a6R hds) x) (by have := hfin.1; show (a3d [] (a2E c docs)).length ≤ _; omega), a8]
  rfl
 ·have hdi := hall.2 d (j7 hx)
  have hi := (d5.1 hx).1
  have h16 := hall.1
  have h3 := (a2X hdi).2.1
  have hol := a5L (c := c) hdi
  refine ⟨?_, e, (a1E _ hs).le (by omega)⟩
  obtain ⟨sd, se⟩ := s
  dsimp only at e hs ⊢
  subst e
  rw [j8, hx, a8]
  rw [a3u (xs := d.Fields) (fun s f => z2.mk s.Docs (a3d s.Entries (a1j c d.Id f))) (fun j s => s.Docs = sd ∧ a3q (i * 480 + j * 160) s.Entries) ⟨sd, se⟩ (by rw [Nat.zero_mul, Nat.add_zero]; exact ⟨rfl, hs⟩) (fun j f s hf ⟨e, hs⟩ => ?_)]
  ·rw [a3n, a8, a8]; rfl
  ·have hft := (a5h hdi (j7 hf)).2
   have htl := a6I hft
   have hj := (d5.1 hf).1
   have hfl := b3A (c := c) (id := d.Id) hft
   refine ⟨?_, e, (a1E _ hs).le (by omega)⟩
   obtain ⟨sd', se'⟩ := s
   dsimp only at e hs ⊢
   subst e
   rw [j8, hf, a8, a36 F c f.Text (by omega) (by omega) (by omega), hcs, hft, l7, if_pos rfl, a8]
   have htm := a1F c f.Text
   rw [a3u (xs := C9 c f.Text) (fun s x => z2.mk s.Docs (a3d s.Entries [((f.Name, x.Text), (d.Id, x.At))])) (fun k s => s.Docs = sd' ∧ a3q (i * 480 + j * 160 + k) s.Entries) ⟨sd', se'⟩ (by rw [Nat.add_zero]; exact ⟨rfl, hs⟩) (fun k x s hxk ⟨e, hs⟩ => ?_)]
   ·rw [a3n (fun x : y9 => [((f.Name, x.Text), (d.Id, x.At))]), a8, a8]
    congr 2
    unfold a1j
    rw [List.map_eq_flatMap]
   ·have hk := (d5.1 hxk).1
    refine ⟨?_, e, by have h1 := a1E [((f.Name, x.Text), (d.Id, x.At))] hs; rw [k5, Nat.add_assoc] at h1; exact h1⟩
    obtain ⟨sd'', se''⟩ := s
    dsimp only at e hs ⊢
    subst e
    rw [j8, hxk, a8, b5D F _ sd'' se'' f.Name x d.Id hs (by omega), a8]
    rfl
end Go.Fk
set_option linter.unusedVariables false
namespace Go.Fk
open Go
def eqL {α : Type} (q : α → α → Bool) (xs ys : List α) : Bool := decide ((xs.length : Int) = ys.length) && (xs.zip ys).all fun p => q p.1 p.2
theorem a8u {α : Type} {q : α → α → Bool} (h : ∀ a b, q a b = true ↔ a = b) : ∀ xs ys : List α, eqL q xs ys = true ↔ xs = ys
 | [], [] => by simp [eqL]
 | [], y :: ys => by simp [eqL]; omega
 | x :: xs, [] => by simp [eqL]; omega
 | x :: xs, y :: ys => by
  have ih := a8u h xs ys
  unfold eqL at ih ⊢
  rw [l6, decide_eq_true_iff] at ih ⊢
  rw [List.zip_cons_cons, List.all_cons, l6, h, List.cons.injEq, ← ih]
  simp only [l4]
  constructor
  ·rintro ⟨h1, h2, h3⟩; exact ⟨h2, by omega, h3⟩
  ·rintro ⟨h1, h2, h3⟩; exact ⟨by omega, h1, h3⟩
theorem b1n {α : Type} {xs ys : List α} {i : Nat} {p : α × α} (h : (xs.zip ys)[i]? = some p) : xs[i]? = some p.1 ∧ ys[i]? = some p.2 := by
 have := List.getElem?_zip_eq_some.1 h
 exact this
theorem b0I {α : Type} (q : α → α → Bool) {xs ys : List α} {f : Nat → Unit → Option (Unit ⊕ Bool)} (h : ∀ i a b, xs[i]? = some a → ys[i]? = some b → f i () = some (if q a b then .inl () else .inr false)) :
  (cond (!((xs.length : Int) == (ys.length : Int))) (some false) (Option.bind ((Option.bind (A1 f xs.length 0 ()) fun r => r.elim (fun _ => some (.inl ())) (fun t => some (.inr t))) : Option (Unit ⊕ Bool)) fun o => o.elim (fun _ => some true) fun t => some t)) = some (eqL q xs ys) := by
 by_cases e : (xs.length : Int) = ys.length
 ·have hz : (xs.zip ys).length = xs.length := by rw [List.length_zip]; omega
  have := T1 (p := fun p : α × α => q p.1 p.2) (xs := xs.zip ys) (f := f) (fun i p hp => h i p.1 p.2 (b1n hp).1 (b1n hp).2)
  have := this xs.length 0 (by omega)
  rw [List.drop_zero] at this
  rw [this, beq_iff_eq.2 e]
  unfold eqL
  rw [c7 e, l7]
  cases (xs.zip ys).all fun p => q p.1 p.2 <;> rfl
 ·rw [beq_eq_false_iff_ne.2 e]
  unfold eqL
  rw [c6 e]; rfl
theorem a6S {α : Type} (q : α → α → Bool) {xs ys : List α} {f : Int → Option (Int ⊕ (Unit ⊕ Bool))} (F : Nat) (hF : xs.length < F) (h : ∀ (i : Nat) a b, i < xs.length → xs[i]? = some a → ys[i]? = some b → f (i : Int) = some (if q a b then .inl ((i + 1 : Nat) : Int) else .inr (.inr false))) (h0 : f (xs.length : Int) = some (.inr (.inl ()))) :
  (cond (!((xs.length : Int) == (ys.length : Int))) (some false) (Option.bind ((Option.bind (r4 f F (0 : Int)) fun r => r.elim (fun _ => some (.inl ())) (fun t => some (.inr t))) : Option (Unit ⊕ Bool)) fun o => o.elim (fun _ => some true) fun t => some t)) = some (eqL q xs ys) := by
 by_cases e : (xs.length : Int) = ys.length
 ·have hz : (xs.zip ys).length = xs.length := by rw [List.length_zip]; omega
  have := a1v (fun p : α × α => q p.1 p.2) (xs := xs.zip ys) (f := f) F (by omega) (fun i p hp => h i p.1 p.2 (by have := (d5.1 hp).1; omega) (b1n hp).1 (b1n hp).2) (by rw [hz]; exact h0)
  rw [this, beq_iff_eq.2 e]
  unfold eqL
  rw [c7 e, l7]
  cases (xs.zip ys).all fun p => q p.1 p.2 <;> rfl
 ·rw [beq_eq_false_iff_ne.2 e]
  unfold eqL
  rw [c6 e]; rfl
def eqI (a b : Int) : Bool := a == b
def eqP (a b : D5) : Bool := a.Doc == b.Doc && eqL eqI a.At b.At
def eqE (a b : u9) : Bool := a.Field == b.Field && (a.Term == b.Term && eqL eqP a.Posts b.Posts)
theorem b6C (a b : Int) : eqI a b = true ↔ a = b := by simp [eqI]
theorem b6D (a b : D5) : eqP a b = true ↔ a = b := by
 unfold eqP
 rw [l6, a8u b6C]
 cases a; cases b; simp
theorem b6B (a b : u9) : eqE a b = true ↔ a = b := by
 unfold eqE
 rw [l6, l6, a8u b6D]
 cases a; cases b; simp
theorem b4l (F : Nat) (a b : List Int) : R3 F a b = some (eqL eqI a b) := by
 unfold R3
 refine b0I eqI fun i x y hx hy => ?_
 rw [j8, hx, a8, j8, hy, a8, M0]
 unfold eqI
 cases x == y <;> rfl
theorem b4p (F : Nat) (a b : D5) : Y8 F a b = some (eqP a b) := by
 unfold Y8 eqP
 rw [b4l]
 cases a.Doc == b.Doc <;> rfl
theorem b2P (F : Nat) (a b : List D5) : D2 F a b = some (eqL eqP a b) := by
 unfold D2
 refine b0I eqP fun i x y hx hy => ?_
 rw [j8, hx, a8, j8, hy, a8, b4p, a8, M0]
 cases eqP x y <;> rfl
theorem b2L (F : Nat) (a b : u9) : U9 F a b = some (eqE a b) := by
 unfold U9 eqE
 rw [b2P]
 cases a.Field == b.Field
 ·rfl
 ·cases a.Term == b.Term <;> rfl
theorem b0Q (F : Nat) (a b : List u9) : C6 F a b = some (eqL eqE a b) := by
 unfold C6
 refine b0I eqE fun i x y hx hy => ?_
 rw [j8, hx, a8, j8, hy, a8, b2L, a8, M0]
 cases eqE x y <;> rfl
theorem b4L (F : Nat) (a b : List Int) (hF : a.length < F) (hl : a.length < 9000000000000000000) : O6 F a b = some (eqL eqI a b) := by
 unfold O6
 refine a6S eqI F hF (fun i x y hi hx hy => ?_) ?_
 ·rw [c7 (by omega), i4, j8, hx, a8, j8, hy, a8, s4 (by omega), M0]
  unfold eqI
  cases x == y <;> rfl
 ·rw [c6 (by omega)]; rfl
theorem b29 (F : Nat) (a b : u9) (h : a.Posts.length ≤ 10000 ∧ ∀ p ∈ a.Posts, p.At.length ≤ 10000) (hF : 10000 < F) : R5 F a b = some (eqE a b) := by
 unfold R5 eqE
 have key := a6S eqP (xs := a.Posts) (ys := b.Posts) F (by omega) (f := fun (s46 : Int) => (cond (decide (s46 < (a.Posts.length : Int))) (Option.bind ((Option.bind (n5 a.Posts s46) fun x67 => (Option.bind (n5 b.Posts s46) fun x81 => (cond (!(x67.Doc == x81.Doc)) (some true) (Option.bind (n5 a.Posts s46) fun x101 => (Option.bind (n5 b.Posts s46) fun x115 => (Option.bind (O6 F x101.At x115.At) fun r129 => (some (!r129)))))))) : Option Bool) fun o60 => (cond o60 (some (.inr (.inr false))) (some (.inl (u6 (s46 + (1 : Int))))))) (some (.inr (.inl ()))))) (fun i x y hi hx hy => ?_) ?_
 ·cases hf : a.Field == b.Field
  ·rfl
  cases ht : a.Term == b.Term
  ·rfl
  rw [l7, l7, ← key]
  simp only [l5, g8]
  rfl
 ·have hp := h.2 x (j7 hx)
  rw [c7 (by omega), i4, j8, hx, a8, j8, hy, a8, s4 (by omega), a8, a8, b4L F _ _ (by omega) (by omega), a8, M0]
  unfold eqP
  cases x.Doc == y.Doc
  ·rfl
  ·cases eqL eqI x.At y.At <;> rfl
 ·rw [c6 (by omega)]; rfl
theorem a6B {c : q9} {docs : List s7} (h : Z2 docs = true) : a3q 7680 (a0i c docs).Entries := by
 have hall := a2y h
 have hput : a3d [] (a2E c docs) = (R7 (a2E c docs)).map (mkE (a2E c docs)) := b1Y _
 have hfin : a3q 7680 ((R7 (a2E c docs)).map (mkE (a2E c docs))) := by
  have hl := a1s (g := a33 c) (m := 480) docs fun d hd => a5L (hall.2 d hd)
  have hl2 := hall.1
  have := a1E (B := 0) (a2E c docs) (es := []) (by simp [a3q])
  rw [hput] at this
  exact this.le (by unfold a2E; omega)
 have hm := b1S (c := c) (a6R h)
 have n1 : (a0i c docs).Entries.Nodup := (a7N c docs).imp fun {a b} k e => by subst e; rw [b0X] at k; cases k
 have n2 : ((R7 (a2E c docs)).map (mkE (a2E c docs))).Nodup := (a83 (a2E c docs)).imp fun {a b} k e => by subst e; rw [b0X] at k; rcases k with k | k <;> cases k
 have hp := (List.perm_ext_iff_of_nodup n1 n2).2 hm
 exact ⟨by rw [hp.length_eq]; exact hfin.1, fun e he => hfin.2 e ((hm e).1 he)⟩
def O9 (c : q9) (s : z2) : Bool := Q9 c && Z2 s.Docs && eqL eqE (a0i c s.Docs).Entries s.Entries
theorem b3u (F : Nat) (c : q9) (s : z2) (hd : s.Docs.length < 9000000000000000000) (hc : c.Stops.length ≤ 2000000) (hF : 1000 < F) : a0S F c s = some (O9 c s) := by
 unfold a0S O9
 rw [a6V F c hc (by omega), a8, b2Q F c s.Docs hd hc hF]
 unfold b5Z
 cases hcs : Q9 c
 ·rfl
 rw [l5, g8, b0f F s.Docs hd, a8, a8, l7]
 cases hds : Z2 s.Docs
 ·rfl
 rw [l5, g8, if_pos rfl, a8, b0Q]; rfl
theorem b58 (F B : Nat) (c : q9) (s : z2) (hdl : s.Docs.length ≤ B) (hdb : ∀ d ∈ s.Docs, b2E B d) (hc : a2i B c) (hB : B ≤ 2000000) (hF : B + 200000 < F) : a1C F c s = some (O9 c s) := by
 unfold a1C O9
 rw [b0w F B c hc hB (by omega), a8]
 cases hcs : Q9 c
 ·rfl
 rw [l5, g8, b23 F B s.Docs hdl hdb hB (by omega), a8, a8, l7]
 cases hds : Z2 s.Docs
 ·rfl
 have hfit := a6B (c := c) hds
 rw [l5, g8, b2r F c s.Docs hcs (b1B hds) (by omega), a8, l7]
 have hl := hfit.1
 refine a6S eqE F (by omega) (fun i x y hi hx hy => ?_) ?_
 ·have hp := hfit.2 x (j7 hx)
  rw [c7 (by omega), i4, j8, hx, a8, j8, hy, a8, s4 (by omega), b29 F x y ⟨by omega, fun p hpp => by have := hp.2 p hpp; omega⟩ (by omega), a8, M0]
  cases eqE x y <;> rfl
 ·rw [c6 (by omega)]; rfl
theorem b7d (F B : Nat) (c : q9) (s : z2) (hd : X0 s.Docs) (hc : a2i B c) (hB : B ≤ 1000000) (hF : B + 202000 < F) : a1C F c s = some (O9 c s) :=
 b58 F (B + 1000) c s (by have := hd.few; omega) (fun d hm => by
  have h := hd.doc d hm
  exact ⟨by have := h.fields; omega, by have := h.nums; omega, fun f hf => by have := h.field f hf; omega, fun a ha => by have := h.num a ha; omega⟩)
  ⟨⟨by have := hc.stops.1; omega, fun x hx => by have := hc.stops.2 x hx; omega⟩, by have := hc.syns.1; omega, fun r hr => by
   have := hc.syns.2 r hr
   exact ⟨by omega, by omega, fun x hx => by have := this.2.2 x hx; omega⟩⟩ (by omega) (by omega)
theorem a2f {c : q9} {s : z2} (h : O9 c s = true) : Q9 c = true ∧ Z2 s.Docs = true ∧ s = a0i c s.Docs := by
 unfold O9 at h
 rw [l6, l6, a8u b6B] at h
 refine ⟨h.1.1, h.1.2, ?_⟩
 have : s.Entries = (a0i c s.Docs).Entries := h.2.symm
 cases s
 simp only at this
 subst this
 rfl
end Go.Fk
