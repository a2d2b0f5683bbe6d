import Derived.Test.YtmkhlppjphodfaaGreatDoorLawDrs
/-
  A document's field. Of no program.
-/
set_option linter.unusedVariables false
namespace Go.Fk
open Go
theorem a5z (F : Nat) (d : s7) (n : k6) : P2 F d n = some (if a2x d then E2 d n else []) := by
 unfold P2 E2
 rw [a81, a8]
 cases a2x d
 ·rfl
 rw [i4, if_pos rfl, a15 (xs := d.Fields) (fun f => f.Name == n) (fun f => f.Text) (fun i x hx => ?_)]
 ·cases d.Fields.find? fun f => f.Name == n <;> rfl
 ·rw [j8, hx, a8, M0]
  cases x.Name == n <;> rfl
theorem a35 {d : s7} (h : a2x d = true) (n : k6) : a0P (E2 d n) = true := by
 unfold E2
 cases hf : d.Fields.find? fun f => f.Name == n with
 | none => rfl
 | some f => exact (a5h h (List.mem_of_find?_eq_some hf)).2
end Go.Fk
set_option linter.unusedVariables false
namespace Go.Fk
open Go
theorem a7z (F : Nat) (s : z2) (id : Int) : R1 F s id = some ((s.Docs.find? fun d => d.Id == id).elim (s7.mk 0 [] [], false) fun d => (d, true)) := by
 unfold R1
 rw [a15 (xs := s.Docs) (fun d => d.Id == id) (fun d => (d, true)) (fun i x hx => ?_)]
 ·cases s.Docs.find? fun d => d.Id == id <;> rfl
 ·rw [j8, hx, a8, M0]
  cases x.Id == id <;> rfl
def M8 (c : q9) (docs : List s7) (n : k6) (id : Int) : Nat := (docs.find? fun d => d.Id == id).elim 0 fun d => (C9 c (E2 d n)).length
theorem a7V (F : Nat) {c : q9} {d : s7} (hc : Q9 c = true) (hd : a2x d = true) (n : k6) (hF : 2000 < F) : (Option.bind (P2 F d n) fun r => I6 F c r) = some (C9 c (E2 d n)) := by
 have h1 := a32 hc
 have h2 := a35 hd n
 have h3 := a6I h2
 rw [a5z, hd, if_pos rfl, a8, a36 F c _ (by omega) (by omega) (by omega), hc, h2]; rfl
theorem a7n {α : Type} {w : α → Nat} {B : Nat} : ∀ l : List α, (∀ x ∈ l, w x ≤ B) → (l.map w).sum ≤ l.length * B
 | [], _ => by simp
 | x :: l, h => by
  have h1 := h x (by simp)
  have h2 := a7n l fun y hy => h y (by simp [hy])
  rw [List.map_cons, List.sum_cons, l4, Nat.add_mul]; omega
end Go.Fk
set_option linter.unusedVariables false
namespace Go.Fk
open Go
theorem b1D {c : q9} {docs : List s7} {e : u9} (he : e ∈ (a0i c docs).Entries) : 0 < e.Posts.length := by
 unfold a0i at he
 obtain ⟨n, _, hm⟩ := List.mem_flatMap.1 he
 obtain ⟨t, ht, rfl⟩ := List.mem_map.1 hm
 obtain ⟨d, hd, x, hx, rfl⟩ := a16.1 ht
 have hmem : x.At ∈ Z9 c d n x.Text := List.mem_flatMap.2 ⟨x, hx, by simp⟩
 have hpos : 0 < (Z9 c d n x.Text).length := List.length_pos_of_mem hmem
 have : (⟨d.Id, Z9 c d n x.Text⟩ : D5) ∈ (H2 c docs n x.Text).Posts := List.mem_flatMap.2 ⟨d, hd, by unfold L9; rw [c7 hpos, if_pos rfl]; simp⟩
 exact List.length_pos_of_mem this
theorem b5x {c : q9} {docs : List s7} {n t : k6} : H2 c docs n t ∈ (a0i c docs).Entries ↔ n ∈ S5 docs ∧ t ∈ G4 c docs n := by
 unfold a0i
 constructor
 ·intro h
  obtain ⟨m, hm, h⟩ := List.mem_flatMap.1 h
  obtain ⟨u, hu, e⟩ := List.mem_map.1 h
  have e1 : m = n := congrArg u9.Field e
  have e2 : u = t := congrArg u9.Term e
  subst e1; subst e2
  exact ⟨hm, hu⟩
 ·rintro ⟨h1, h2⟩
  exact List.mem_flatMap.2 ⟨n, h1, List.mem_map.2 ⟨t, h2, rfl⟩⟩
theorem b3w {c : q9} {docs : List s7} {e : u9} (h : e ∈ (a0i c docs).Entries) : e = H2 c docs e.Field e.Term := by
 unfold a0i at h
 obtain ⟨m, hm, h⟩ := List.mem_flatMap.1 h
 obtain ⟨u, hu, rfl⟩ := List.mem_map.1 h
 rfl
theorem b7g {c : q9} {docs : List s7} {d : s7} {n : k6} {x : y9} (hd : d ∈ docs) (hx : x ∈ C9 c (E2 d n)) : n ∈ S5 docs ∧ x.Text ∈ G4 c docs n := by
 refine ⟨?_, a16.2 ⟨d, hd, x, hx, rfl⟩⟩
 unfold E2 at hx
 cases hf : d.Fields.find? fun f => f.Name == n with
 | none => rw [hf, Option.elim_none, a2U] at hx; cases hx
 | some f => exact a5l.2 ⟨d, hd, f, List.mem_of_find?_eq_some hf, eq_of_beq (List.find?_some (p := fun f : I5 => f.Name == n) hf)⟩
def J5 (s : z2) (n t : k6) : List D5 := (s.Entries.find? (a23 n t)).elim [] (·.Posts)
theorem a4I (F : Nat) (s : z2) (n t : k6) : a12 F s n t = some (J5 s n t) := by
 unfold a12 J5
 rw [a15 (xs := s.Entries) (a23 n t) (fun e => e.Posts) (fun i x hx => ?_)]
 ·cases s.Entries.find? (a23 n t) <;> rfl
 ·rw [j8, hx, a8]
  unfold a23
  rw [M0]
  cases x.Field == n
  ·rfl
  ·cases x.Term == t <;> rfl
theorem b72 (F : Nat) (c : q9) (s : z2) (n t : k6) (hd : s.Docs.length < 9000000000000000000) (hc : c.Stops.length ≤ 2000000) (hF : 2000 < F) : m8 F c s n t = some (if O9 c s then J5 s n t else []) := by
 unfold m8
 rw [b3u F c s hd hc (by omega), a8]
 cases ho : O9 c s
 ·rfl
 obtain ⟨h1, h2, h3⟩ := a2f ho
 have hfit : a3q 10000 s.Entries := by rw [h3]; exact (a6B h2).le (by omega)
 have hp : (J5 s n t).length ≤ 10000 ∧ ∀ p ∈ J5 s n t, p.At.length ≤ 10000 := by
  unfold J5
  cases hf : s.Entries.find? (a23 n t) with
  | none => exact ⟨Nat.zero_le _, fun p hp => by cases hp⟩
  | some e => exact hfit.2 e (List.mem_of_find?_eq_some hf)
 have hpl := hp.1
 rw [l5, g8, a4I, a8, if_pos rfl]
 rw [a8A (fun p : D5 => [p]) 10000 (fun i p acc hx hB => ?_) [] (by rw [List.nil_append]; simp; omega)]
 ·simp
 ·have := hp.2 p (j7 hx)
  rw [j8, hx, a8, G7 (by simp only [List.length_nil]; omega), a8, List.nil_append, G7 (by simp at hB ⊢; omega)]; rfl
theorem a7I (c : q9) (docs : List s7) (n t : k6) : J5 (a0i c docs) n t = docs.flatMap (L9 c n t) := by
 unfold J5
 cases hf : (a0i c docs).Entries.find? (a23 n t) with
 | some e =>
  have hm := List.mem_of_find?_eq_some hf
  have hk := List.find?_some (p := a23 n t) hf
  unfold a23 at hk
  rw [l6] at hk
  have e1 := eq_of_beq hk.1
  have e2 := eq_of_beq hk.2
  have := b3w hm
  rw [this, e1, e2]; rfl
 | none =>
  have hno : ∀ d ∈ docs, L9 c n t d = [] := fun d hd => by
   cases hp : L9 c n t d with
   | nil => rfl
   | cons p ps =>
    unfold L9 at hp
    split at hp
    ·rename_i h0
     have h0 := of_decide_eq_true h0
     obtain ⟨a, ha⟩ := List.exists_mem_of_length_pos h0
     unfold Z9 at ha
     obtain ⟨x, hx, hxa⟩ := List.mem_flatMap.1 ha
     have ht : x.Text = t := by
      split at hxa
      ·rename_i k; exact eq_of_beq k
      ·cases hxa
     obtain ⟨k1, k2⟩ := b7g (c := c) hd hx
     rw [ht] at k2
     have := List.find?_eq_none.1 hf _ (b5x.2 ⟨k1, k2⟩)
     exact absurd (show a23 n t (H2 c docs n t) = true by unfold a23 H2; simp) this
    ·cases hp
  show [] = _
  rw [List.flatMap_eq_nil_iff.2 hno]
end Go.Fk
set_option linter.unusedVariables false
namespace Go.Fk
open Go
theorem a4c {c : q9} {s : z2} (ho : O9 c s = true) (n t : k6) : (J5 s n t).length ≤ 10000 ∧ ∀ p ∈ J5 s n t, p.At.length ≤ 10000 := by
 obtain ⟨h1, h2, h3⟩ := a2f ho
 have hfit : a3q 10000 s.Entries := by rw [h3]; exact (a6B h2).le (by omega)
 unfold J5
 cases hf : s.Entries.find? (a23 n t) with
 | none => exact ⟨Nat.zero_le _, fun p hp => by cases hp⟩
 | some e => exact hfit.2 e (List.mem_of_find?_eq_some hf)
end Go.Fk
