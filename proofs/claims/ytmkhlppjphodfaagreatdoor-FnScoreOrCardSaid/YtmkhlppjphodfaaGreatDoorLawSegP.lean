import Derived.Test.YtmkhlppjphodfaaGreatDoorLawDrs
/-
  A document's field. Of no program.
-/
set_option linter.unusedVariables false
namespace Go.Fk
open Go
theorem a5z (F : Nat) (d : s7) (n : k6) : P2 F d n = some (if a2x d then E2 d n else []) := by
 unfold P2 E2
 rw [a81, a8]
 cases a2x d
 ·rfl
 rw [i4, if_pos rfl, a15 (xs := d.Fields) (fun f => f.Name == n) (fun f => f.Text) (fun i x hx => ?_)]
 ·cases d.Fields.find? fun f => f.Name == n <;> rfl
 ·rw [j8, hx, a8, M0]
  cases x.Name == n <;> rfl
theorem a35 {d : s7} (h : a2x d = true) (n : k6) : a0P (E2 d n) = true := by
 unfold E2
 cases hf : d.Fields.find? fun f => f.Name == n with
 | none => rfl
 | some f => exact (a5h h (List.mem_of_find?_eq_some hf)).2
end Go.Fk
set_option linter.unusedVariables false
namespace Go.Fk
open Go
theorem a7z (F : Nat) (s : z2) (id : Int) : R1 F s id = some ((s.Docs.find? fun d => d.Id == id).elim (s7.mk 0 [] [], false) fun d => (d, true)) := by
 unfold R1
 rw [a15 (xs := s.Docs) (fun d => d.Id == id) (fun d => (d, true)) (fun i x hx => ?_)]
 ·cases s.Docs.find? fun d => d.Id == id <;> rfl
 ·rw [j8, hx, a8, M0]
  cases x.Id == id <;> rfl
def M8 (c : q9) (docs : List s7) (n : k6) (id : Int) : Nat := (docs.find? fun d => d.Id == id).elim 0 fun d => (C9 c (E2 d n)).length
theorem a7V (F : Nat) {c : q9} {d : s7} (hc : Q9 c = true) (hd : a2x d = true) (n : k6) (hF : 2000 < F) : (Option.bind (P2 F d n) fun r => I6 F c r) = some (C9 c (E2 d n)) := by
 have h1 := a32 hc
 have h2 := a35 hd n
 have h3 := a6I h2
 rw [a5z, hd, if_pos rfl, a8, a36 F c _ (by omega) (by omega) (by omega), hc, h2]; rfl
def a5H (id : Int) (p : D5) : Nat := if p.Doc == id then p.At.length else 0
def a0J (n : k6) (id : Int) (e : u9) : Nat := if e.Field == n then (e.Posts.map (a5H id)).sum else 0
theorem a3L {α : Type} (w : α → Nat) : ∀ (l : List α) (a : Nat), l.foldl (fun a x => a + w x) a = a + (l.map w).sum
 | [], a => by simp
 | x :: l, a => by rw [List.foldl_cons, a3L w l, List.map_cons, List.sum_cons]; omega
theorem b1W {B : Nat} {id : Int} {p : D5} (h : p.At.length ≤ B) : a5H id p ≤ B := by unfold a5H; split <;> omega
theorem a7n {α : Type} {w : α → Nat} {B : Nat} : ∀ l : List α, (∀ x ∈ l, w x ≤ B) → (l.map w).sum ≤ l.length * B
 | [], _ => by simp
 | x :: l, h => by
  have h1 := h x (by simp)
  have h2 := a7n l fun y hy => h y (by simp [hy])
  rw [List.map_cons, List.sum_cons, l4, Nat.add_mul]; omega
theorem b4c {n : k6} {id : Int} {e : u9} (h : e.Posts.length ≤ 10000 ∧ ∀ p ∈ e.Posts, p.At.length ≤ 10000) : a0J n id e ≤ 100000000 := by
 have := a7n (w := a5H id) (B := 10000) e.Posts fun p hp => b1W (h.2 p hp)
 have h1 := h.1
 unfold a0J
 split <;> omega
theorem b4O (F : Nat) (s : z2) (n : k6) (id : Int) (h : a3q 10000 s.Entries) (hF : 20000 < F) : a1h F s n id = some (((s.Entries.map (a0J n id)).sum : Nat) : Int) := by
 have hl := h.1
 unfold a1h
 rw [(P4 (xs := s.Entries) (fun a e => a + a0J n id e) (fun i (a : Nat) => a ≤ i * 100000000) (fun a => (a : Int)) (fun a i => ((a : Int), i)) (s0 := ((0 : Int), (0 : Int))) 0 rfl F (by omega) (by simp) (fun i e a hx ha => ?_) (fun a ha => ?_)).1, a3L]
 ·rw [Nat.zero_add]; rfl
 ·have hi := (d5.1 hx).1
  have hp := h.2 e (j7 hx)
  have hw := b4c (n := n) (id := id) hp
  have hp1 := hp.1
  refine ⟨?_, by omega⟩
  simp only
  rw [c7 (by omega), i4]
  cases hfn : e.Field == n
  ·have e0 : a0J n id e = 0 := by unfold a0J; rw [hfn]; rfl
   obtain ⟨G, rfl⟩ : ∃ G, F = G + 1 := ⟨F - 1, by omega⟩
   rw [r4]
   simp only
   rw [j8, hx]
   simp only [a8, hfn]
   have hz : (bif decide ((0 : Int) < (e.Posts.length : Int)) then some false else some false) = some false := by cases decide ((0 : Int) < (e.Posts.length : Int)) <;> rfl
   rw [hz]
   simp only [a8, g8, Sum.elim_inr]
   rw [s4 (by omega), e0]; rfl
  ·rw [(P4 (xs := e.Posts) (fun a p => a + a5H id p) (fun j (b : Nat) => b ≤ i * 100000000 + j * 10000) (fun a => (a : Int)) (fun a i => ((a : Int), i)) (s0 := ((a : Int), (0 : Int))) a rfl F (by omega) (by rw [Nat.zero_mul, Nat.add_zero]; exact ha) (fun j p b hxj hb => ?_) (fun b hb => ?_)).1, a3L]
   ·rw [a8, a8, s4 (by omega)]
    have : a0J n id e = (e.Posts.map (a5H id)).sum := by unfold a0J; rw [hfn]; rfl
    rw [this]
   ·have hj := (d5.1 hxj).1
    have hpw := b1W (id := id) (hp.2 p (j7 hxj))
    have hpa := hp.2 p (j7 hxj)
    refine ⟨?_, by omega⟩
    simp only
    rw [j8, hx]
    simp only [a8, hfn]
    rw [c7 (by omega), i4, a8, i4, j8, hxj, a8, a8, s4 (by omega)]
    unfold a5H
    rw [M0]
    cases p.Doc == id
    ·rfl
    ·rw [i4, i4, show (b : Int) + (p.At.length : Int) = ((b + p.At.length : Nat) : Int) by omega, a8M (by omega)]
   ·simp only
    rw [j8, hx]
    simp only [a8]
    rw [c6 (by omega)]; rfl
 ·simp only
  rw [c6 (by omega)]; rfl
theorem a6H {α : Type} [DecidableEq α] {w : α → Nat} {a : α} : ∀ l : List α, l.Nodup → (∀ x ∈ l, x ≠ a → w x = 0) → (l.map w).sum = if a ∈ l then w a else 0
 | [], _, _ => by simp
 | x :: l, hn, h => by
  have hc := List.nodup_cons.1 hn
  have ih := a6H l hc.2 fun y hy => h y (by simp [hy])
  rw [List.map_cons, List.sum_cons, ih]
  by_cases e : x = a
  ·subst e
   rw [if_neg hc.1, if_pos (by simp)]; rfl
  ·rw [h x (by simp) e, Nat.zero_add]
   have : (a ∈ x :: l) ↔ a ∈ l := by rw [List.mem_cons]; exact ⟨fun q => q.resolve_left fun k => e k.symm, .inr⟩
   simp only [this]
theorem b1g {α : Type} (v w : α → Nat) : ∀ l : List α, (l.map fun x => v x + w x).sum = (l.map v).sum + (l.map w).sum
 | [] => rfl
 | x :: l => by simp only [List.map_cons, List.sum_cons, b1g v w l]; omega
theorem a6G {α β : Type} (f : α → List β) (w : β → Nat) : ∀ l : List α, ((l.flatMap f).map w).sum = (l.map fun x => ((f x).map w).sum).sum
 | [] => rfl
 | x :: l => by rw [List.flatMap_cons, List.map_append, List.sum_append, a6G f w l]; rfl
theorem a3f {α : Type} : ∀ l : List α, (l.map fun _ => 0).sum = 0
 | [] => rfl
 | x :: l => by rw [List.map_cons, List.sum_cons, a3f l]
theorem a6O {T : List k6} (hT : T.Nodup) : ∀ l : List y9, (∀ x ∈ l, x.Text ∈ T) → (T.map fun t => (l.flatMap fun x => if x.Text == t then [x.At] else []).length).sum = l.length
 | [], _ => by
  exact a3f T
 | x :: l, h => by
  have ih := a6O hT l fun y hy => h y (by simp [hy])
  have : (fun t => ((x :: l).flatMap fun x => if x.Text == t then [x.At] else []).length) = fun t => (if x.Text == t then 1 else 0) + (l.flatMap fun x => if x.Text == t then [x.At] else []).length := by
   funext t
   rw [List.flatMap_cons, k7, M0, M0]
   cases x.Text == t <;> rfl
  rw [this, b1g, ih, a6H (a := x.Text) T hT (fun t _ ht => by rw [beq_eq_false_iff_ne.2 fun e => ht e.symm]; rfl), if_pos (h x (by simp)), beq_self_eq_true, l4]
  simp; omega
theorem b6M {docs : List s7} {d : s7} {id : Int} (h : ∀ e ∈ docs, d.Id < e.Id) (hd : d.Id = id) : docs.find? (fun e => e.Id == id) = none :=
 List.find?_eq_none.2 fun e he k => by have := h e he; have := eq_of_beq k; omega
theorem b0r (c : q9) (n t : k6) (id : Int) : ∀ docs : List s7, (docs.Pairwise fun a b => a.Id < b.Id) → ((docs.flatMap (L9 c n t)).map (a5H id)).sum = (docs.find? fun d => d.Id == id).elim 0 fun d => (Z9 c d n t).length
 | [], _ => rfl
 | d :: r, hd => by
  have hc := List.pairwise_cons.1 hd
  have ih := b0r c n t id r hc.2
  rw [List.flatMap_cons, List.map_append, List.sum_append, ih, List.find?_cons]
  have hone : ((L9 c n t d).map (a5H id)).sum = if d.Id == id then (Z9 c d n t).length else 0 := by
   unfold L9
   by_cases h0 : 0 < (Z9 c d n t).length
   ·rw [c7 h0, if_pos rfl]; simp [a5H]
   ·rw [c6 h0, if_neg (by simp)]
    have : (Z9 c d n t).length = 0 := by omega
    rw [this]; simp
  rw [hone]
  cases hid : d.Id == id
  ·rw [if_neg (by simp), Nat.zero_add]
  ·rw [if_pos rfl, b6M hc.1 (eq_of_beq hid)]; rfl
theorem b5K {c : q9} {docs : List s7} (hg : a52 docs) (n : k6) (id : Int) : ((a0i c docs).Entries.map (a0J n id)).sum = M8 c docs n id := by
 have hnn : (S5 docs).Nodup := (show List.Pairwise (fun a b => y5 a b = true) (S5 docs) from a38 docs).imp fun {a b} k e => by subst e; rw [a0e] at k; cases k
 have htn : (G4 c docs n).Nodup := (show List.Pairwise (fun a b => y5 a b = true) (G4 c docs n) from a3v c docs n).imp fun {a b} k e => by subst e; rw [a0e] at k; cases k
 show (((S5 docs).flatMap fun n => (G4 c docs n).map (H2 c docs n)).map (a0J n id)).sum = _
 rw [a6G, a6H (a := n) _ hnn (fun m _ hm => ?_)]
 ·have hin : ((G4 c docs n).map (H2 c docs n)).map (a0J n id) = (G4 c docs n).map fun t => (docs.find? fun d => d.Id == id).elim 0 fun d => (Z9 c d n t).length := by
   rw [List.map_map]
   refine List.map_congr_left fun t _ => ?_
   show a0J n id (H2 c docs n t) = _
   unfold a0J H2
   simp only [beq_self_eq_true, if_true]
   exact b0r c n t id docs hg.ids
  rw [hin]
  unfold M8
  cases hf : docs.find? fun d => d.Id == id with
  | none =>
   simp only [Option.elim_none]
   split
   ·exact a3f _
   ·rfl
  | some d =>
   have hdm := List.mem_of_find?_eq_some hf
   simp only [Option.elim_some]
   by_cases hm : n ∈ S5 docs
   ·rw [if_pos hm]
    exact a6O htn _ fun x hx => a16.2 ⟨d, hdm, x, hx, rfl⟩
   ·rw [if_neg hm]
    have : E2 d n = [] := by
     unfold E2
     cases hff : d.Fields.find? fun f => f.Name == n with
     | none => rfl
     | some f => exact absurd (a5l.2 ⟨d, hdm, f, List.mem_of_find?_eq_some hff, eq_of_beq (List.find?_some (p := fun f : I5 => f.Name == n) hff)⟩) hm
    rw [this, a2U]; rfl
 ·have : ((G4 c docs m).map (H2 c docs m)).map (a0J n id) = (G4 c docs m).map fun _ => 0 := by
   rw [List.map_map]
   refine List.map_congr_left fun t _ => ?_
   show a0J n id (H2 c docs m t) = 0
   unfold a0J
   have : ((H2 c docs m t).Field == n) = false := beq_eq_false_iff_ne.2 hm
   rw [this]; rfl
  rw [this]
  exact a3f _
end Go.Fk
set_option linter.unusedVariables false
namespace Go.Fk
open Go
theorem b1D {c : q9} {docs : List s7} {e : u9} (he : e ∈ (a0i c docs).Entries) : 0 < e.Posts.length := by
 unfold a0i at he
 obtain ⟨n, _, hm⟩ := List.mem_flatMap.1 he
 obtain ⟨t, ht, rfl⟩ := List.mem_map.1 hm
 obtain ⟨d, hd, x, hx, rfl⟩ := a16.1 ht
 have hmem : x.At ∈ Z9 c d n x.Text := List.mem_flatMap.2 ⟨x, hx, by simp⟩
 have hpos : 0 < (Z9 c d n x.Text).length := List.length_pos_of_mem hmem
 have : (⟨d.Id, Z9 c d n x.Text⟩ : D5) ∈ (H2 c docs n x.Text).Posts := List.mem_flatMap.2 ⟨d, hd, by unfold L9; rw [c7 hpos, if_pos rfl]; simp⟩
 exact List.length_pos_of_mem this
theorem b5x {c : q9} {docs : List s7} {n t : k6} : H2 c docs n t ∈ (a0i c docs).Entries ↔ n ∈ S5 docs ∧ t ∈ G4 c docs n := by
 unfold a0i
 constructor
 ·intro h
  obtain ⟨m, hm, h⟩ := List.mem_flatMap.1 h
  obtain ⟨u, hu, e⟩ := List.mem_map.1 h
  have e1 : m = n := congrArg u9.Field e
  have e2 : u = t := congrArg u9.Term e
  subst e1; subst e2
  exact ⟨hm, hu⟩
 ·rintro ⟨h1, h2⟩
  exact List.mem_flatMap.2 ⟨n, h1, List.mem_map.2 ⟨t, h2, rfl⟩⟩
theorem b3w {c : q9} {docs : List s7} {e : u9} (h : e ∈ (a0i c docs).Entries) : e = H2 c docs e.Field e.Term := by
 unfold a0i at h
 obtain ⟨m, hm, h⟩ := List.mem_flatMap.1 h
 obtain ⟨u, hu, rfl⟩ := List.mem_map.1 h
 rfl
theorem b7g {c : q9} {docs : List s7} {d : s7} {n : k6} {x : y9} (hd : d ∈ docs) (hx : x ∈ C9 c (E2 d n)) : n ∈ S5 docs ∧ x.Text ∈ G4 c docs n := by
 refine ⟨?_, a16.2 ⟨d, hd, x, hx, rfl⟩⟩
 unfold E2 at hx
 cases hf : d.Fields.find? fun f => f.Name == n with
 | none => rw [hf, Option.elim_none, a2U] at hx; cases hx
 | some f => exact a5l.2 ⟨d, hd, f, List.mem_of_find?_eq_some hf, eq_of_beq (List.find?_some (p := fun f : I5 => f.Name == n) hf)⟩
def J5 (s : z2) (n t : k6) : List D5 := (s.Entries.find? (a23 n t)).elim [] (·.Posts)
theorem a4I (F : Nat) (s : z2) (n t : k6) : a12 F s n t = some (J5 s n t) := by
 unfold a12 J5
 rw [a15 (xs := s.Entries) (a23 n t) (fun e => e.Posts) (fun i x hx => ?_)]
 ·cases s.Entries.find? (a23 n t) <;> rfl
 ·rw [j8, hx, a8]
  unfold a23
  rw [M0]
  cases x.Field == n
  ·rfl
  ·cases x.Term == t <;> rfl
theorem a7I (c : q9) (docs : List s7) (n t : k6) : J5 (a0i c docs) n t = docs.flatMap (L9 c n t) := by
 unfold J5
 cases hf : (a0i c docs).Entries.find? (a23 n t) with
 | some e =>
  have hm := List.mem_of_find?_eq_some hf
  have hk := List.find?_some (p := a23 n t) hf
  unfold a23 at hk
  rw [l6] at hk
  have e1 := eq_of_beq hk.1
  have e2 := eq_of_beq hk.2
  have := b3w hm
  rw [this, e1, e2]; rfl
 | none =>
  have hno : ∀ d ∈ docs, L9 c n t d = [] := fun d hd => by
   cases hp : L9 c n t d with
   | nil => rfl
   | cons p ps =>
    unfold L9 at hp
    split at hp
    ·rename_i h0
     have h0 := of_decide_eq_true h0
     obtain ⟨a, ha⟩ := List.exists_mem_of_length_pos h0
     unfold Z9 at ha
     obtain ⟨x, hx, hxa⟩ := List.mem_flatMap.1 ha
     have ht : x.Text = t := by
      split at hxa
      ·rename_i k; exact eq_of_beq k
      ·cases hxa
     obtain ⟨k1, k2⟩ := b7g (c := c) hd hx
     rw [ht] at k2
     have := List.find?_eq_none.1 hf _ (b5x.2 ⟨k1, k2⟩)
     exact absurd (show a23 n t (H2 c docs n t) = true by unfold a23 H2; simp) this
    ·cases hp
  show [] = _
  rw [List.flatMap_eq_nil_iff.2 hno]
end Go.Fk
set_option linter.unusedVariables false
namespace Go.Fk
open Go
theorem a48 (F : Nat) (s : z2) (n t : k6) (hl : s.Entries.length ≤ 10000) (hF : 20000 < F) : V8 F s n t = some (J5 s n t) := by
 unfold V8 J5
 rw [X9 (xs := s.Entries) (a23 n t) (fun e => (Sum.inr e.Posts : Unit ⊕ List D5)) (e := Sum.inl ()) F (by omega) (fun i x hx => ?_) ?_]
 ·cases s.Entries.find? (a23 n t) <;> rfl
 ·rw [c6 (by omega)]; rfl
 ·have hi := (d5.1 hx).1
  rw [c7 (by omega), i4, j8, hx, a8, a8, a8, s4 (by omega)]
  unfold a23
  rw [M0]
  cases x.Field == n
  ·rfl
  ·cases x.Term == t <;> rfl
theorem a4c {c : q9} {s : z2} (ho : O9 c s = true) (n t : k6) : (J5 s n t).length ≤ 10000 ∧ ∀ p ∈ J5 s n t, p.At.length ≤ 10000 := by
 obtain ⟨h1, h2, h3⟩ := a2f ho
 have hfit : a3q 10000 s.Entries := by rw [h3]; exact (a6B h2).le (by omega)
 unfold J5
 cases hf : s.Entries.find? (a23 n t) with
 | none => exact ⟨Nat.zero_le _, fun p hp => by cases hp⟩
 | some e => exact hfit.2 e (List.mem_of_find?_eq_some hf)
end Go.Fk
