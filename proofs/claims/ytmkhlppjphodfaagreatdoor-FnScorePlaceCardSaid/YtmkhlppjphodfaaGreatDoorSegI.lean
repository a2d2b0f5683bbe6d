/-
  An index's entries as rows of the call's own: the entries' row, each entry's row of posts, each post's row of places. Of no program.
-/
import Derived.Test.YtmkhlppjphodfaaGreatDoorTypes
import Derived.Test.YtmkhlppjphodfaaGreatDoorCoreP
namespace Go.Fk
open Go
set_option linter.unusedSectionVars false
variable [dr : Dr]
def b4Z (k : Nat) : Ty (List Value) where
 size := k
 agg := true
 rel := fun _ v x => v = .agg x.toArray ∧ x.length = k ∧ ∀ c ∈ x, c.oneCell' = true
 mono := fun _ _ _ h => h
 shape := by rintro K v x ⟨rfl, _, _⟩; exact .inl ⟨rfl, _, rfl⟩
 size_eq := by rintro K v x ⟨rfl, h, _⟩; simpa [Value.cells] using h
 ones := by rintro K v x ⟨rfl, _, h⟩; simpa [Value.cells] using h
theorem b3J {K : C5} {cs : List Value} {k : Nat} {b o c : Nat} (h : b7 (b4Z k) K (some ⟨b, o, none⟩) 1 c [cs]) : D0 K b o cs := by
 obtain ⟨_, h2, _, h4⟩ := h
 obtain ⟨b', o', e, h5⟩ := h4 (by omega)
 injection e with e
 injection e with e1 e2 _
 subst e1 e2
 obtain ⟨u, ⟨rfl, _⟩, hk⟩ := h5 0 cs rfl
 rw [Nat.zero_mul, Nat.add_zero] at hk
 exact hk
theorem b13 {K : C5} {cs : List Value} {k : Nat} {a : Option Addr} {c : Nat} (h : b7 (b4Z k) K a 1 c [cs]) : ∃ b o, a = some ⟨b, o, none⟩ := by
 obtain ⟨_, h2, _, h4⟩ := h
 obtain ⟨b, o, e, _⟩ := h4 (by omega)
 exact ⟨b, o, e⟩
theorem b6N {K : C5} {z : Int} {b o c : Nat} (h : b7 B7 K (some ⟨b, o, none⟩) 1 c [z]) : D0 K b o [.int .i64 z] := by
 obtain ⟨_, h2, _, h4⟩ := h
 obtain ⟨b', o', e, h5⟩ := h4 (by omega)
 injection e with e
 injection e with e1 e2 _
 subst e1 e2
 obtain ⟨u, ⟨rfl, _⟩, hk⟩ := h5 0 z rfl
 rw [Nat.zero_mul, Nat.add_zero] at hk
 exact hk
theorem b69 {α : Type} {t : Ty α} {K : C5} {xs : List α} {a : Option Addr} {n c : Nat} (h : b7 t K a (n + 1) c xs) : ∃ b o, a = some ⟨b, o, none⟩ := by
 obtain ⟨_, h2, _, h4⟩ := h
 obtain ⟨b, o, e, _⟩ := h4 (by omega)
 exact ⟨b, o, e⟩
theorem b2a {α β : Type} {f : α → β} {xs : List α} {k : Int} {y : β} (h : n5 (xs.map f) k = some y) : ∃ x, n5 xs k = some x ∧ f x = y := by
 unfold n5 at h ⊢
 split at h
 ·rename_i h0
  rw [if_pos h0]
  rw [List.getElem?_map] at h
  exact Option.map_eq_some_iff.1 h
 ·cases h
theorem b09 {α : Type} {xs : List α} {x : α} {k : Int} (hk : k = xs.length) : n5 (xs ++ [x]) k = some x := by
 subst hk
 unfold n5
 rw [if_pos (by omega)]
 simp
theorem a8L {n : Nat} (h : n ≤ maxLen) : u6 ((n : Int) - 1) = (n : Int) - 1 := y8 ⟨by omega, by simp [maxLen] at h; omega⟩
theorem b7a {n : Nat} (h : n ≤ maxLen) : u6 (u6 ((n : Int) - 1) + 1) = (n : Int) := by
 rw [a8L h, show (n : Int) - 1 + 1 = n from by omega]
 exact y8 ⟨by omega, by simp [maxLen] at h; omega⟩
structure P8 where
 doc : Int
 at_ : List Int
 a : Option Addr
 n : Nat
 c : Nat
structure F6 where
 field : k6
 term : k6
 posts : List P8
 a : Option Addr
 n : Nat
 c : Nat
def P8.x (p : P8) : D5 := ⟨p.doc, p.at_⟩
def F6.x (e : F6) : u9 := ⟨e.field, e.term, e.posts.map P8.x⟩
def P8.cells (p : P8) : List Value := [.int .i64 p.doc, .slice p.a p.n p.c]
def F6.cells (e : F6) : List Value := [sv e.field, sv e.term, .slice e.a e.n e.c]
def b0R (z : Int) : Value := .int .i64 z
def P8.item (TI : TypeId) (p : P8) : B6 := Q3 (.slice p.a p.n p.c) (p.at_.map b0R) TI 1
def F6.row (TP : TypeId) (e : F6) : B6 := Q3 (.slice e.a e.n e.c) (e.posts.flatMap P8.cells) TP 2
def F6.items (TP TI : TypeId) (e : F6) : List B6 := e.row TP :: e.posts.map (P8.item TI)
def Y2 (TE : TypeId) (a : Option Addr) (n c : Nat) (lay : List F6) : B6 := Q3 (.slice a n c) (lay.flatMap F6.cells) TE 3
def L0 (TE TP TI : TypeId) (a : Option Addr) (n c : Nat) (lay : List F6) : List B6 := Y2 TE a n c lay :: lay.flatMap (F6.items TP TI)
def P8.ok (p : P8) : Prop := d9 p.doc ∧ ∀ z ∈ p.at_, d9 z
def F6.ok (e : F6) : Prop := e.field.length ≤ maxLen ∧ e.term.length ≤ maxLen ∧ ∀ p ∈ e.posts, p.ok
def a4g (lay : List F6) (xs : List u9) : Prop := (∀ e ∈ lay, e.ok) ∧ lay.map F6.x = xs
section
variable {w w0 : World} {K K0 : C5} {M : List Nat} {L : List B6} {TE TP TI : TypeId} {gs : List Nat} {a : Option Addr} {n c : Nat} {lay : List F6} {xs : List u9}
theorem b0h : ∀ zs : List Int, zs.flatMap (fun z => [b0R z]) = zs.map b0R
 | [] => rfl
 | z :: r => by rw [List.flatMap_cons, b0h r]; rfl
theorem b2c (zs : List Int) (h : ∀ z ∈ zs, d9 z) : A4 true B7 K (zs.map b0R) zs := by
 have := A4.flatMap (K := K) (t := B7) (cells := fun z => [b0R z]) (f := id) (ps := zs) fun z hz => ⟨b0R z, ⟨rfl, h z hz⟩, rfl⟩
 rwa [List.map_id, b0h] at this
theorem b2e {ps : List P8} (h : SH w0 K0 M w K L) (hm : ∀ p ∈ ps, p.item TI ∈ L) (hg : ∀ p ∈ ps, ∀ b ∈ (p.item TI).gs, b ∈ gs) (ho : ∀ p ∈ ps, p.ok) : A4 true S1 (a7i K w gs) (ps.flatMap P8.cells) (ps.map P8.x) := by
 refine A4.flatMap fun p hp => ⟨.agg #[.int .i64 p.doc, .slice p.a p.n p.c], ⟨p.a, p.n, p.c, rfl, (ho p hp).1, ?_⟩, rfl⟩
 exact (a7j (t := B7) h (hm p hp) (hg p hp) (by decide) (b2c _ (ho p hp).2)).1
theorem a6C (h : SH w0 K0 M w K L) (hm : ∀ it ∈ lay.flatMap (F6.items TP TI), it ∈ L) (hg : ∀ it ∈ lay.flatMap (F6.items TP TI), ∀ b ∈ it.gs, b ∈ gs) (hl : a4g lay xs) : A4 true z6 (a7i K w gs) (lay.flatMap F6.cells) xs := by
 obtain ⟨ho, rfl⟩ := hl
 refine A4.flatMap fun e he => ⟨.agg #[sv e.field, sv e.term, .slice e.a e.n e.c], ⟨e.a, e.n, e.c, rfl, (ho e he).1, (ho e he).2.1, ?_⟩, rfl⟩
 have h1 : ∀ it ∈ e.items TP TI, it ∈ lay.flatMap (F6.items TP TI) := fun it hi => List.mem_flatMap.2 ⟨e, he, hi⟩
 refine (a7j (t := S1) h (hm _ (h1 _ (List.mem_cons_self ..))) (hg _ (h1 _ (List.mem_cons_self ..))) (by decide) (b2e (TI := TI) h ?_ ?_ (ho e he).2.2)).1
 ·exact fun p hp => hm _ (h1 _ (List.mem_cons_of_mem _ (List.mem_map.2 ⟨p, hp, rfl⟩)))
 ·exact fun p hp => hg _ (h1 _ (List.mem_cons_of_mem _ (List.mem_map.2 ⟨p, hp, rfl⟩)))
theorem b51 (h : SH w0 K0 M w K L) (hm : ∀ it ∈ L0 TE TP TI a n c lay, it ∈ L) (hg : ∀ it ∈ L0 TE TP TI a n c lay, ∀ b ∈ it.gs, b ∈ gs) (hl : a4g lay xs) : b7 z6 (a7i K w gs) a n c xs ∧ n = xs.length :=
 a7j (t := z6) h (hm _ (List.mem_cons_self ..)) (hg _ (List.mem_cons_self ..)) (by decide) (a6C (TP := TP) (TI := TI) h (fun it hi => hm it (List.mem_cons_of_mem _ hi)) (fun it hi => hg it (List.mem_cons_of_mem _ hi)) hl)
theorem b68 (h : SH w0 K0 M w K (a4Z (L0 TE TP TI a n c lay) :: L)) (hl : a4g lay xs) :
  ∃ K' cs, H6 K K' ∧ A4 true z6 K' cs xs ∧ n = xs.length ∧ SH w0 K0 M w K' (Q3 (.slice a n c) cs TE 3 :: L) := by
 have h1 := h.unpack
 have h2 : SH w0 K0 M w K (lay.flatMap (F6.items TP TI) ++ (Y2 TE a n c lay :: L)) := h1.perm (List.perm_middle (l₁ := lay.flatMap (F6.items TP TI)))
 have hr : A4 true z6 (a7i K w ((lay.flatMap (F6.items TP TI)).flatMap B6.gs)) (lay.flatMap F6.cells) xs :=
  a6C (TP := TP) (TI := TI) h2 (fun it hi => List.mem_append_left _ hi) (fun it hi b hb => List.mem_flatMap.2 ⟨it, hi, hb⟩) hl
 refine ⟨_, _, a9w h.holds, hr, ?_, h2.see⟩
 have hcl := hr.1.2 rfl
 rcases h2.rowI_cases (U := TE) (sz := 3) (List.mem_append_right _ (List.mem_cons_self ..)) with ⟨_, h3, _, h4⟩ | ⟨g, cur, _, h3, h4, h5, _⟩
 ·rw [h4] at hcl; simp [z6] at hcl; omega
 ·rw [h5] at hcl; simp [z6] at hcl; omega
theorem b4G {a : Option Addr} {c : Nat} (h : SH w0 K0 M w K (tail (.slice a 0 c) TE 3 :: L)) : SH w0 K0 M w K (a4Z (L0 TE TP TI a 0 c []) :: L) := by
 refine SH.packUp (ls := L0 TE TP TI a 0 c []) (?_ : SH w0 K0 M w K (Q3 (.slice a 0 c) [] TE 3 :: L))
 have hi := h.items _ (List.mem_cons_self ..)
 refine ⟨h.os, h.tape, h.output, h.holds, h.le, h.size, h.old, h.oldK, fun it hit => ?_, fun it hit b hb => ?_, h.nodup, h.drawn⟩
 ·rcases List.mem_cons.1 hit with rfl | hit
  ·refine ⟨?_, fun b hb => ?_⟩
   ·rcases hi.1 with h1 | ⟨g, n, cap, h1, h2, h3⟩
    ·exact .inl ⟨h1, rfl⟩
    ·injection h1 with e1 e2 e3
     subst e1 e2 e3
     exact .inr ⟨g, 0, c, rfl, h2, h3, by simp⟩
   ·obtain ⟨g, n, cap, cur, h1, h2, h3, h4⟩ := hi.2 b hb
    injection h1 with e1 e2 e3
    subst e1 e2 e3
    exact ⟨⟨g, 0, c, cur, rfl, h2, h3, by simp⟩, fun i => h4 i (by omega)⟩
  ·exact h.items it (List.mem_cons_of_mem _ hit)
 ·rcases List.mem_cons.1 hit with rfl | hit
  ·exact h.lt _ (List.mem_cons_self ..) b hb
  ·exact h.lt it (List.mem_cons_of_mem _ hit) b hb
theorem b0u {pre post : List F6} {e : F6} : (L0 TE TP TI a n c (pre ++ e :: post)).Perm (Y2 TE a n c (pre ++ e :: post) :: e.row TP :: (e.posts.map (P8.item TI) ++ (pre.flatMap (F6.items TP TI) ++ post.flatMap (F6.items TP TI)))) := by
 refine List.Perm.cons _ ?_
 rw [List.flatMap_append, List.flatMap_cons]
 refine (List.perm_append_comm_assoc _ _ _).trans ?_
 simp only [F6.items, List.cons_append]
 exact List.Perm.refl _
theorem a9m {ps : List P8} {p : P8} {R : List B6} : ((ps ++ [p]).map (P8.item TI) ++ R).Perm (p.item TI :: (ps.map (P8.item TI) ++ R)) := by
 rw [List.map_append, List.append_assoc]
 exact List.perm_middle
theorem b52 {α : Type} {xs : List α} {k : Int} {x : α} (h : n5 xs k = some x) : ∃ pre post, xs = pre ++ x :: post ∧ pre.length = k.toNat ∧ 0 ≤ k := by
 obtain ⟨h0, h1, h2⟩ := a0Y h
 have hl := (d5.1 h2)
 obtain ⟨hlt, rfl⟩ := hl
 exact ⟨xs.take k.toNat, xs.drop (k.toNat + 1), by rw [List.getElem_cons_drop, List.take_append_drop], by rw [List.length_take]; omega, h0⟩
theorem a2h (pre : List F6) : (pre.flatMap F6.cells).length = pre.length * 3 := by
 induction pre with
 | nil => rfl
 | cons e r ih => rw [List.flatMap_cons, k7, ih]; simp [F6.cells]; omega
theorem a2g (pre : List P8) : (pre.flatMap P8.cells).length = pre.length * 2 := by
 induction pre with
 | nil => rfl
 | cons e r ih => rw [List.flatMap_cons, k7, ih]; simp [P8.cells]; omega
theorem a9x {pre post : List F6} {e : F6} {o : Nat} (ho : o = pre.length * 3 + 2) : ((pre ++ e :: post).flatMap F6.cells)[o]? = some (.slice e.a e.n e.c) := by
 subst ho
 rw [List.flatMap_append, List.flatMap_cons, List.getElem?_append_right (by rw [a2h]; omega), a2h, show pre.length * 3 + 2 - pre.length * 3 = 2 from by omega]
 rfl
theorem b2b {pre post : List F6} {e e' : F6} {o : Nat} (ho : o = pre.length * 3 + 2) (hf : e'.field = e.field) (ht : e'.term = e.term) : ((pre ++ e :: post).flatMap F6.cells).set o (.slice e'.a e'.n e'.c) = (pre ++ e' :: post).flatMap F6.cells := by
 subst ho
 rw [List.flatMap_append, List.flatMap_cons, List.set_append_right _ _ (by rw [a2h]; omega), a2h, show pre.length * 3 + 2 - pre.length * 3 = 2 from by omega, List.flatMap_append, List.flatMap_cons]
 simp [F6.cells, hf, ht]
theorem a9y {ps : List P8} {p : P8} {o k : Nat} (ho : o = ps.length * 2 + k) : ((ps ++ [p]).flatMap P8.cells)[o]? = p.cells[k]? := by
 subst ho
 rw [List.flatMap_append, List.getElem?_append_right (by rw [a2g]; omega), a2g, show ps.length * 2 + k - ps.length * 2 = k from by omega]
 simp
theorem b2f {ps : List P8} {p p' : P8} {o : Nat} (ho : o = ps.length * 2 + 1) (hd : p'.doc = p.doc) : ((ps ++ [p]).flatMap P8.cells).set o (.slice p'.a p'.n p'.c) = (ps ++ [p']).flatMap P8.cells := by
 subst ho
 rw [List.flatMap_append, List.set_append_right _ _ (by rw [a2g]; omega), a2g, show ps.length * 2 + 1 - ps.length * 2 = 1 from by omega, List.flatMap_append]
 simp [P8.cells, hd]
theorem a9z {e : F6} (h : SH w0 K0 M w K L) (hm : e.row TP ∈ L) : e.n = e.posts.length := by
 rcases h.rowI_cases hm with ⟨_, h1, _, h2⟩ | ⟨g, cur, _, h1, h2, h3, _⟩
 ·have := a2g e.posts; rw [h2, List.length_nil] at this; omega
 ·rw [a2g] at h3; omega
theorem a9A (h : SH w0 K0 M w K L) (hm : Y2 TE a n c lay ∈ L) : n = lay.length := by
 rcases h.rowI_cases hm with ⟨_, h1, _, h2⟩ | ⟨g, cur, _, h1, h2, h3, _⟩
 ·have := a2h lay; rw [h2, List.length_nil] at this; omega
 ·rw [a2h] at h3; omega
theorem b2d {p : P8} (h : SH w0 K0 M w K L) (hm : p.item TI ∈ L) : p.n = p.at_.length := by
 rcases h.rowI_cases hm with ⟨_, h1, _, h2⟩ | ⟨g, cur, _, h1, h2, h3, _⟩
 ·simp at h2; simp [h1, h2]
 ·simp at h3; omega
end
end Go.Fk
