import Derived.Test.YtmkhlppjphodfaaGreatDoorLawSeg
/-
  The segment by putting one term after the other: entries in the order of their first term. Of no program.
-/
set_option linter.unusedVariables false
namespace Go.Fk
open Go
abbrev Occ := (k6 × k6) × (Int × Int)
def N6 (ps : List D5) (id : Int) (at_ : Int) : List D5 :=
 match (if I8 ps id then ps ++ [D5.mk id []] else ps).getLast? with
 | none => []
 | some p => (if I8 ps id then ps ++ [D5.mk id []] else ps).dropLast ++ [D5.mk p.Doc (p.At ++ [at_])]
def a3T (o : Occ) : List u9 → List u9
 | [] => [⟨o.1.1, o.1.2, N6 [] o.2.1 o.2.2⟩]
 | e :: r => if e.Field == o.1.1 && e.Term == o.1.2 then ⟨e.Field, e.Term, N6 e.Posts o.2.1 o.2.2⟩ :: r else e :: a3T o r
def a13 (k : k6 × k6) : List (k6 × k6) → List (k6 × k6)
 | [] => [k]
 | x :: r => if x == k then x :: r else x :: a13 k r
def R7 (os : List Occ) : List (k6 × k6) := os.foldl (fun ks o => a13 o.1 ks) []
def a8D (l : List (Int × Int)) : List D5 := l.foldl (fun ps q => N6 ps q.1 q.2) []
def mkE (os : List Occ) (k : k6 × k6) : u9 := ⟨k.1, k.2, a8D ((os.filter fun o => o.1 == k).map (·.2))⟩
theorem a5R {k x : k6 × k6} : ∀ {l : List (k6 × k6)}, x ∈ a13 k l ↔ x = k ∨ x ∈ l
 | [] => by simp [a13]
 | a :: l => by
  unfold a13
  split
  ·rename_i h
   have := eq_of_beq h
   subst this
   rw [List.mem_cons]
   constructor
   ·rintro (h | h) <;> simp [h]
   ·rintro (h | h | h) <;> simp [h]
  ·rw [List.mem_cons, a5R (l := l), List.mem_cons]
   constructor
   ·rintro (h1 | h1 | h1) <;> simp [h1]
   ·rintro (h1 | h1 | h1) <;> simp [h1]
theorem a54 {k : k6 × k6} : ∀ {l : List (k6 × k6)}, l.Nodup → (a13 k l).Nodup
 | [], _ => by simp [a13]
 | a :: l, h => by
  have hc := List.nodup_cons.1 h
  unfold a13
  split
  ·exact h
  ·rename_i hne
   refine List.nodup_cons.2 ⟨fun hm => ?_, a54 hc.2⟩
   rcases a5R.1 hm with e | hm
   ·exact hne (by simp [e])
   ·exact hc.1 hm
theorem a8P {k : k6 × k6} : ∀ {l : List (k6 × k6)}, k ∉ l → a13 k l = l ++ [k]
 | [], _ => rfl
 | a :: l, h => by
  have h1 : (a == k) = false := beq_eq_false_iff_ne.2 fun e => h (by simp [e])
  unfold a13
  rw [h1, if_neg (by simp), a8P (l := l) (fun hm => h (by simp [hm]))]; rfl
theorem a8Q {k : k6 × k6} : ∀ {l : List (k6 × k6)}, k ∈ l → a13 k l = l
 | [], h => by cases h
 | a :: l, h => by
  unfold a13
  split
  ·rfl
  ·rename_i hne
   rcases List.mem_cons.1 h with e | h
   ·exact absurd (by simp [e]) hne
   ·rw [a8Q h]
theorem a4N (os : List Occ) (o : Occ) : R7 (os ++ [o]) = a13 o.1 (R7 os) := by
 unfold R7; rw [List.foldl_append]; rfl
theorem b0j : ∀ (l pre : List Occ) , ((R7 pre).Nodup ∧ ∀ k, k ∈ R7 pre ↔ ∃ o ∈ pre, o.1 = k) → (R7 (pre ++ l)).Nodup ∧ ∀ k, k ∈ R7 (pre ++ l) ↔ ∃ o ∈ pre ++ l, o.1 = k
 | [], pre, h => by rw [List.append_nil]; exact h
 | o :: l, pre, ⟨h1, h2⟩ => by
  rw [show pre ++ o :: l = (pre ++ [o]) ++ l by simp]
  refine b0j l (pre ++ [o]) ⟨?_, fun k => ?_⟩
  ·rw [a4N]; exact a54 h1
  ·rw [a4N, a5R, h2]
   constructor
   ·rintro (rfl | ⟨q, hq, e⟩)
    ·exact ⟨o, by simp, rfl⟩
    ·exact ⟨q, by simp [hq], e⟩
   ·rintro ⟨q, hq, e⟩
    rcases List.mem_append.1 hq with hq | hq
    ·exact .inr ⟨q, hq, e⟩
    ·rw [List.mem_singleton] at hq; subst hq; exact .inl e.symm
theorem b0S (os : List Occ) : (R7 os).Nodup ∧ ∀ k, k ∈ R7 os ↔ ∃ o ∈ os, o.1 = k := by
 have := b0j os [] ⟨List.nodup_nil, by simp [R7]⟩
 simpa using this
theorem a4O (os : List Occ) (o : Occ) (k : k6 × k6) : mkE (os ++ [o]) k = if o.1 == k then ⟨k.1, k.2, N6 (mkE os k).Posts o.2.1 o.2.2⟩ else mkE os k := by
 unfold mkE
 rw [List.filter_append]
 cases h : o.1 == k
 ·rw [List.filter_cons, h]; simp
 ·rw [List.filter_cons, h]; simp [a8D, List.foldl_append]
theorem b3H {os : List Occ} {o : Occ} : ∀ {ks : List (k6 × k6)}, ks.Nodup → o.1 ∈ ks → a3T o (ks.map (mkE os)) = ks.map (mkE (os ++ [o]))
 | [], _, h => by cases h
 | k :: ks, hn, h => by
  have hc := List.nodup_cons.1 hn
  have hpick : ((mkE os k).Field == o.1.1 && (mkE os k).Term == o.1.2) = (k == o.1) := rfl
  rw [List.map_cons, List.map_cons, a3T, hpick]
  by_cases he : k = o.1
  ·subst he
   rw [beq_self_eq_true, if_pos rfl, a4O, beq_self_eq_true, if_pos rfl]
   congr 1
   refine List.map_congr_left fun x hx => ?_
   have : (o.1 == x) = false := beq_eq_false_iff_ne.2 fun e => hc.1 (e ▸ hx)
   rw [a4O, this, if_neg (by simp)]
  ·have h1 : (k == o.1) = false := beq_eq_false_iff_ne.2 he
   have h2 : (o.1 == k) = false := beq_eq_false_iff_ne.2 fun e => he e.symm
   rw [h1, if_neg (by simp), a4O, h2, if_neg (by simp)]
   congr 1
   rcases List.mem_cons.1 h with e | h
   ·exact absurd e.symm he
   ·exact b3H hc.2 h
theorem b3F {o : Occ} : ∀ {es : List u9}, (∀ e ∈ es, (e.Field == o.1.1 && e.Term == o.1.2) = false) → a3T o es = es ++ [⟨o.1.1, o.1.2, N6 [] o.2.1 o.2.2⟩]
 | [], _ => rfl
 | e :: es, h => by
  rw [a3T, h e (by simp), if_neg (by simp), b3F (fun e he => h e (by simp [he]))]; rfl
theorem b6X {os : List Occ} {o : Occ} {ks : List (k6 × k6)} (h : o.1 ∉ ks) (hos : ∀ q ∈ os, q.1 ∈ ks) : a3T o (ks.map (mkE os)) = (ks ++ [o.1]).map (mkE (os ++ [o])) := by
 rw [b3F (fun e he => ?_), List.map_append]
 ·congr 1
  ·refine List.map_congr_left fun x hx => ?_
   have : (o.1 == x) = false := beq_eq_false_iff_ne.2 fun e => h (e ▸ hx)
   rw [a4O, this, if_neg (by simp)]
  ·rw [List.map_singleton, a4O, beq_self_eq_true, if_pos rfl]
   have : os.filter (fun q => q.1 == o.1) = [] := List.filter_eq_nil_iff.2 fun q hq e => h (by have := eq_of_beq e; rw [← this]; exact hos q hq)
   simp [mkE, this, a8D]
 ·obtain ⟨k, hk, rfl⟩ := List.mem_map.1 he
  show (k == o.1) = false
  exact beq_eq_false_iff_ne.2 fun e => h (e ▸ hk)
theorem b1Z : ∀ (l pre : List Occ), l.foldl (fun es o => a3T o es) ((R7 pre).map (mkE pre)) = (R7 (pre ++ l)).map (mkE (pre ++ l))
 | [], pre => by rw [List.append_nil]; rfl
 | o :: l, pre => by
  have hk := b0S pre
  have hst : a3T o ((R7 pre).map (mkE pre)) = (R7 (pre ++ [o])).map (mkE (pre ++ [o])) := by
   rw [a4N]
   by_cases h : o.1 ∈ R7 pre
   ·rw [a8Q h, b3H hk.1 h]
   ·rw [a8P h, b6X h fun q hq => (hk.2 _).2 ⟨q, hq, rfl⟩]
  rw [List.foldl_cons, hst, b1Z l (pre ++ [o]), show pre ++ [o] ++ l = pre ++ o :: l by simp]
theorem b1Y (os : List Occ) : os.foldl (fun es o => a3T o es) [] = (R7 os).map (mkE os) := by
 have := b1Z os []
 simpa [R7] using this
end Go.Fk
set_option linter.unusedVariables false
namespace Go.Fk
open Go
theorem a2U (c : q9) : C9 c [] = [] := by
 have h := a1F c []
 exact List.eq_nil_of_length_eq_zero (by simp at h; simp [h])
theorem a8X {α : Type} (h : α → k6) {x : k6} : ∀ (l : List α) (a : List k6), x ∈ l.foldl (fun a y => a2D (h y) a) a ↔ x ∈ a ∨ ∃ y ∈ l, h y = x
 | [], a => by simp
 | y :: r, a => by
  rw [List.foldl_cons, a8X h r, a86]
  constructor
  ·rintro ((rfl | h1) | ⟨z, hz, e⟩)
   ·exact .inr ⟨y, by simp, rfl⟩
   ·exact .inl h1
   ·exact .inr ⟨z, by simp [hz], e⟩
  ·rintro (h1 | ⟨z, hz, e⟩)
   ·exact .inl (.inr h1)
   ·rcases List.mem_cons.1 hz with rfl | hz
    ·exact .inl (.inl e.symm)
    ·exact .inr ⟨z, hz, e⟩
theorem a4H {α : Type} (h : α → k6) : ∀ (l : List α) (a : List k6), a4w a → a4w (l.foldl (fun a y => a2D (h y) a) a)
 | [], a, ha => ha
 | y :: r, a, ha => by rw [List.foldl_cons]; exact a4H h r _ (a7B ha)
theorem a6Z (n : k6) : ∀ (docs : List s7) (a : List k6), (a4w a → a4w (docs.foldl (fun a d => d.Fields.foldl (fun a f => a2D f.Name a) a) a)) ∧ (n ∈ docs.foldl (fun a d => d.Fields.foldl (fun a f => a2D f.Name a) a) a ↔ n ∈ a ∨ ∃ d ∈ docs, ∃ f ∈ d.Fields, f.Name = n)
 | [], a => by simp
 | d :: r, a => by
  have ih := a6Z n r (d.Fields.foldl (fun a f => a2D f.Name a) a)
  rw [List.foldl_cons]
  refine ⟨fun h => ih.1 (a4H (fun f : I5 => f.Name) _ _ h), ?_⟩
  rw [ih.2, a8X (fun f : I5 => f.Name)]
  constructor
  ·rintro ((h | h) | ⟨e, he, h⟩)
   ·exact .inl h
   ·exact .inr ⟨d, by simp, h⟩
   ·exact .inr ⟨e, by simp [he], h⟩
  ·rintro (h | ⟨e, he, h⟩)
   ·exact .inl (.inl h)
   ·rcases List.mem_cons.1 he with rfl | he
    ·exact .inl (.inr h)
    ·exact .inr ⟨e, he, h⟩
theorem a5l {docs : List s7} {n : k6} : n ∈ S5 docs ↔ ∃ d ∈ docs, ∃ f ∈ d.Fields, f.Name = n := by
 have := (a6Z n docs []).2
 simpa [S5] using this
theorem a38 (docs : List s7) : a4w (S5 docs) := (a6Z [] docs []).1 List.Pairwise.nil
theorem a5Q (c : q9) (n t : k6) : ∀ (docs : List s7) (a : List k6), (a4w a → a4w (docs.foldl (fun a d => a5I a (C9 c (E2 d n))) a)) ∧ (t ∈ docs.foldl (fun a d => a5I a (C9 c (E2 d n))) a ↔ t ∈ a ∨ ∃ d ∈ docs, ∃ x ∈ C9 c (E2 d n), x.Text = t)
 | [], a => by simp
 | d :: r, a => by
  have ih := a5Q c n t r (a5I a (C9 c (E2 d n)))
  rw [List.foldl_cons]
  refine ⟨fun h => ih.1 (a4H (fun x : y9 => x.Text) _ _ h), ?_⟩
  rw [ih.2]
  unfold a5I
  rw [a8X (fun x : y9 => x.Text)]
  constructor
  ·rintro ((h | h) | ⟨e, he, h⟩)
   ·exact .inl h
   ·exact .inr ⟨d, by simp, h⟩
   ·exact .inr ⟨e, by simp [he], h⟩
  ·rintro (h | ⟨e, he, h⟩)
   ·exact .inl (.inl h)
   ·rcases List.mem_cons.1 he with rfl | he
    ·exact .inl (.inr h)
    ·exact .inr ⟨e, he, h⟩
theorem a16 {c : q9} {docs : List s7} {n t : k6} : t ∈ G4 c docs n ↔ ∃ d ∈ docs, ∃ x ∈ C9 c (E2 d n), x.Text = t := by
 have := (a5Q c n t docs []).2
 simpa [G4] using this
theorem a3v (c : q9) (docs : List s7) (n : k6) : a4w (G4 c docs n) := (a5Q c n [] docs []).1 List.Pairwise.nil
theorem a7r {ps : List D5} {id a : Int} (h : I8 ps id = true) : N6 ps id a = ps ++ [D5.mk id [a]] := by
 unfold N6
 rw [h]; simp
theorem b0E {ps : List D5} {id a : Int} {as' : List Int} : N6 (ps ++ [D5.mk id as']) id a = ps ++ [D5.mk id (as' ++ [a])] := by
 have : I8 (ps ++ [D5.mk id as']) id = false := by simp [I8]
 unfold N6
 rw [this]; simp
theorem b0q {ps : List D5} {id : Int} : ∀ (l as' : List Int), (l.map fun a => (id, a)).foldl (fun ps q => N6 ps q.1 q.2) (ps ++ [D5.mk id as']) = ps ++ [D5.mk id (as' ++ l)]
 | [], as' => by simp
 | a :: l, as' => by rw [List.map_cons, List.foldl_cons, b0E, b0q l, List.append_assoc]; rfl
theorem b2X {ps : List D5} {id : Int} {l : List Int} (h : I8 ps id = true) : (l.map fun a => (id, a)).foldl (fun ps q => N6 ps q.1 q.2) ps = ps ++ (if decide (0 < l.length) then [D5.mk id l] else []) := by
 cases l with
 | nil => simp
 | cons a l => rw [List.map_cons, List.foldl_cons, a7r h, b0q]; simp
theorem b6Q {ps : List D5} {id : Int} (h : ∀ p ∈ ps, p.Doc ≠ id) : I8 ps id = true := by
 unfold I8
 split
 ·rfl
 ·rename_i p hp
  have := h p (List.mem_of_getLast? hp)
  simp [this]
theorem a9n (c : q9) (n t : k6) : ∀ (docs : List s7) (ps : List D5), (docs.Pairwise fun a b => a.Id < b.Id) → (∀ p ∈ ps, ∀ d ∈ docs, p.Doc < d.Id) →
  (docs.flatMap fun d => (Z9 c d n t).map fun a => (d.Id, a)).foldl (fun ps q => N6 ps q.1 q.2) ps = ps ++ docs.flatMap (L9 c n t)
 | [], ps, _, _ => by simp
 | d :: r, ps, hd, hp => by
  have hc := List.pairwise_cons.1 hd
  rw [List.flatMap_cons, List.flatMap_cons, List.foldl_append, b2X (b6Q fun p hm => by have := hp p hm d (by simp); omega), a9n c n t r _ hc.2 (fun p hm e he => ?_), List.append_assoc]
  ·rfl
  ·rcases List.mem_append.1 hm with hm | hm
   ·exact hp p hm e (by simp [he])
   ·split at hm
    ·rw [List.mem_singleton] at hm; subst hm; exact hc.1 e he
    ·cases hm
def a1j (c : q9) (id : Int) (f : I5) : List Occ := (C9 c f.Text).map fun x => ((f.Name, x.Text), (id, x.At))
def a33 (c : q9) (d : s7) : List Occ := d.Fields.flatMap (a1j c d.Id)
def a2E (c : q9) (docs : List s7) : List Occ := docs.flatMap (a33 c)
theorem b4x (c : q9) (id : Int) (f : I5) (n t : k6) : ((a1j c id f).filter fun o => o.1 == (n, t)).map (·.2) = if f.Name == n then ((C9 c f.Text).flatMap fun x => if x.Text == t then [x.At] else []).map fun a => (id, a) else [] := by
 unfold a1j
 generalize C9 c f.Text = l
 have hk : ∀ x : y9, (((f.Name, x.Text) : k6 × k6) == (n, t)) = (f.Name == n && x.Text == t) := fun _ => rfl
 cases h : f.Name == n
 ·rw [if_neg (by simp), List.filter_eq_nil_iff.2 fun o ho e => ?_]
  ·rfl
  ·obtain ⟨x, _, rfl⟩ := List.mem_map.1 ho
   have e' := (hk x).symm.trans e
   rw [h] at e'; cases e'
 ·rw [if_pos rfl]
  induction l with
  | nil => rfl
  | cons x r ih =>
   rw [List.map_cons, List.filter_cons, List.flatMap_cons, hk, h, l7, List.map_append, ← ih]
   cases x.Text == t <;> rfl
theorem a87 (c : q9) (id : Int) (n t : k6) : ∀ (l : List I5), (l.Pairwise fun f g => f.Name ≠ g.Name) → (((l.flatMap (a1j c id)).filter fun o => o.1 == (n, t)).map (·.2)) = ((C9 c ((l.find? fun f => f.Name == n).elim [] (·.Text))).flatMap fun x => if x.Text == t then [x.At] else []).map fun a => (id, a)
 | [], _ => by simp [a2U]
 | f :: r, h => by
  have hc := List.pairwise_cons.1 h
  have ih := a87 c id n t r hc.2
  rw [List.flatMap_cons, List.filter_append, List.map_append, b4x, List.find?_cons]
  cases hn : f.Name == n
  ·rw [if_neg (by simp), List.nil_append, ih]
  ·have he := eq_of_beq hn
   have hnone : r.find? (fun g => g.Name == n) = none := List.find?_eq_none.2 fun g hg e => hc.1 g hg (he.trans (eq_of_beq e).symm)
   rw [if_pos rfl, ih, hnone]
   simp [a2U]
theorem b3z (c : q9) (n t : k6) : ∀ (docs : List s7), (∀ d ∈ docs, d.Fields.Pairwise fun f g => f.Name ≠ g.Name) → ((a2E c docs).filter fun o => o.1 == (n, t)).map (·.2) = docs.flatMap fun d => (Z9 c d n t).map fun a => (d.Id, a)
 | [], _ => by simp [a2E]
 | d :: r, h => by
  have ih := b3z c n t r fun e he => h e (by simp [he])
  unfold a2E at ih ⊢
  rw [List.flatMap_cons, List.filter_append, List.map_append, ih, List.flatMap_cons]
  congr 1
  exact a87 c d.Id n t d.Fields (h d (by simp))
structure a52 (docs : List s7) : Prop where
 ids : docs.Pairwise fun a b => a.Id < b.Id
 names : ∀ d ∈ docs, d.Fields.Pairwise fun f g => f.Name ≠ g.Name
theorem b0n {c : q9} {docs : List s7} (h : a52 docs) (n t : k6) : mkE (a2E c docs) (n, t) = H2 c docs n t := by
 unfold mkE H2 a8D
 rw [b3z c n t docs h.names]
 have := a9n c n t docs [] h.ids (by simp)
 rw [List.nil_append] at this
 simp only [this]
theorem a85 {c : q9} {d : s7} {o : Occ} : o ∈ a33 c d ↔ ∃ f ∈ d.Fields, ∃ x ∈ C9 c f.Text, o = ((f.Name, x.Text), (d.Id, x.At)) := by
 unfold a33 a1j
 simp only [List.mem_flatMap, List.mem_map, eq_comm]
theorem b5y {d : s7} (h : d.Fields.Pairwise fun f g => f.Name ≠ g.Name) {f : I5} (hf : f ∈ d.Fields) : E2 d f.Name = f.Text := by
 have gen : ∀ l : List I5, (l.Pairwise fun f g => f.Name ≠ g.Name) → f ∈ l → (l.find? fun g => g.Name == f.Name).elim [] (·.Text) = f.Text := by
  intro l
  induction l with
  | nil => intro _ h; cases h
  | cons g r ih =>
   intro hp hm
   have hc := List.pairwise_cons.1 hp
   rw [List.find?_cons]
   rcases List.mem_cons.1 hm with rfl | hm
   ·rw [beq_self_eq_true]; rfl
   ·have : (g.Name == f.Name) = false := beq_eq_false_iff_ne.2 (hc.1 f hm)
    rw [this]; exact ih hc.2 hm
 exact gen d.Fields h hf
theorem b1S {c : q9} {docs : List s7} (h : a52 docs) (e : u9) : e ∈ (a0i c docs).Entries ↔ e ∈ (R7 (a2E c docs)).map (mkE (a2E c docs)) := by
 unfold a0i
 rw [List.mem_flatMap, List.mem_map]
 have hk := (b0S (a2E c docs)).2
 constructor
 ·rintro ⟨n, hn, hm⟩
  obtain ⟨t, ht, rfl⟩ := List.mem_map.1 hm
  refine ⟨(n, t), (hk _).2 ?_, b0n h n t⟩
  obtain ⟨d, hd, x, hx, rfl⟩ := a16.1 ht
  unfold E2 at hx
  cases hf : d.Fields.find? fun f => f.Name == n with
  | none =>
   rw [hf] at hx
   rw [Option.elim_none, a2U] at hx; cases hx
  | some f =>
   rw [hf] at hx
   have hfn := List.find?_some hf
   exact ⟨((f.Name, x.Text), (d.Id, x.At)), List.mem_flatMap.2 ⟨d, hd, a85.2 ⟨f, List.mem_of_find?_eq_some hf, x, hx, rfl⟩⟩, by rw [eq_of_beq hfn]⟩
 ·rintro ⟨⟨n, t⟩, hkm, rfl⟩
  obtain ⟨o, ho, hok⟩ := (hk _).1 hkm
  obtain ⟨d, hd, hod⟩ := List.mem_flatMap.1 ho
  obtain ⟨f, hf, x, hx, rfl⟩ := a85.1 hod
  cases hok
  refine ⟨f.Name, a5l.2 ⟨d, hd, f, hf, rfl⟩, List.mem_map.2 ⟨x.Text, a16.2 ⟨d, hd, x, ?_, rfl⟩, (b0n h _ _).symm⟩⟩
  rw [b5y (h.names d hd) hf]; exact hx
def ltE (a b : u9) : Bool := y5 a.Field b.Field || (a.Field == b.Field && y5 a.Term b.Term)
theorem a2L (a b : u9) : ltE a b = true ↔ y5 a.Field b.Field = true ∨ (a.Field = b.Field ∧ y5 a.Term b.Term = true) := by simp [ltE]
theorem b0X (a : u9) : ltE a a = false := by
 rw [Bool.eq_false_iff]; intro h
 rcases (a2L a a).1 h with h | ⟨_, h⟩
 ·rw [a0e] at h; cases h
 ·rw [a0e] at h; cases h
theorem b8i {a b c : u9} (h : ltE a b = true) (h' : ltE b c = true) : ltE a c = true := by
 rw [a2L] at h h' ⊢
 rcases h with h | ⟨e, h⟩
 ·rcases h' with h' | ⟨e', h'⟩
  ·exact .inl (a3W h h')
  ·exact .inl (e' ▸ h)
 ·rcases h' with h' | ⟨e', h'⟩
  ·exact .inl (e ▸ h')
  ·exact .inr ⟨e.trans e', a3W h h'⟩
theorem b8g {a b c : u9} (h : ltE a c = true) : ltE a b = true ∨ ltE b c = true := by
 rw [a2L] at h ⊢
 rw [a2L]
 rcases h with h | ⟨e, h⟩
 ·rcases b53 (b := b.Field) h with h1 | h1
  ·exact .inl (.inl h1)
  ·exact .inr (.inl h1)
 ·by_cases e1 : a.Field = b.Field
  ·rcases b53 (b := b.Term) h with h1 | h1
   ·exact .inl (.inr ⟨e1, h1⟩)
   ·exact .inr (.inr ⟨e1 ▸ e, h1⟩)
  ·rcases b2i e1 with h1 | h1
   ·exact .inl (.inl h1)
   ·exact .inr (.inl (e ▸ h1))
theorem b8h {a b : u9} (h : (a.Field, a.Term) ≠ (b.Field, b.Term)) : ltE a b = true ∨ ltE b a = true := by
 rw [a2L, a2L]
 by_cases e : a.Field = b.Field
 ·have : a.Term ≠ b.Term := fun e' => h (by rw [e, e'])
  rcases b2i this with h1 | h1
  ·exact .inl (.inr ⟨e, h1⟩)
  ·exact .inr (.inr ⟨e.symm, h1⟩)
 ·rcases b2i e with h1 | h1
  ·exact .inl (.inl h1)
  ·exact .inr (.inl h1)
theorem a7N (c : q9) (docs : List s7) : (a0i c docs).Entries.Pairwise fun a b => ltE a b = true := by
 unfold a0i
 refine List.pairwise_flatMap.2 ⟨fun n _ => ?_, ?_⟩
 ·exact List.pairwise_map.2 (List.Pairwise.imp (R := fun a b => y5 a b = true) (fun {a b} h => (a2L (H2 c docs n a) (H2 c docs n b)).2 (.inr ⟨rfl, h⟩)) (a3v c docs n))
 ·refine (a38 docs).imp fun {a b} h x hx y hy => ?_
  obtain ⟨t, _, rfl⟩ := List.mem_map.1 hx
  obtain ⟨u, _, rfl⟩ := List.mem_map.1 hy
  exact (a2L _ _).2 (.inl h)
theorem a83 (os : List Occ) : ((R7 os).map (mkE os)).Pairwise fun a b => ltE a b = true ∨ ltE b a = true :=
 List.pairwise_map.2 (List.Pairwise.imp (R := fun a b => a ≠ b) (fun {a b} h => b8h (a := mkE os a) (b := mkE os b) h) (b0S os).1)
def a9Q (x y : k6) : Int := if y5 x y then -1 else if !(y5 x y || x == y) then 1 else 0
theorem b3q (F : Nat) (x y : k6) : J8 F x y = some (a9Q x y) := by
 have hn : ∀ s, N0 F s = some false := fun s => by unfold N0; simp
 unfold J8 a9Q
 rw [hn, hn, a8, a8, g8, g8, M0, M0]
 cases y5 x y
 ·cases x == y <;> rfl
 ·rfl
end Go.Fk
