/-
  Facets as pairs (number, how many): putting in order, sorting by how many. Of no program.
-/
import Derived.Test.YtoeajphlomankaaLawCount
import Derived.Test.YtoeajphlomankaaLawOrd
set_option linter.unusedVariables false
namespace Go.Fk
open Go

def ltF (a b : Int × Int) : Bool := decide (b.2 < a.2) || (a.2 == b.2 && decide (a.1 < b.1))
theorem ltF_iff (a b : Int × Int) : ltF a b = true ↔ b.2 < a.2 ∨ (a.2 = b.2 ∧ a.1 < b.1) := by simp [ltF]
theorem ltF_irr (a : Int × Int) : ltF a a = false := by
  rw [Bool.eq_false_iff]; intro h; have := (ltF_iff a a).1 h; omega
theorem ltF_tr {a b c : Int × Int} (h : ltF a b = true) (h' : ltF b c = true) : ltF a c = true := by
  rw [ltF_iff] at h h' ⊢; omega
theorem ltF_ng {a b c : Int × Int} (h : ltF a c = true) : ltF a b = true ∨ ltF b c = true := by
  rw [ltF_iff] at h; rw [ltF_iff, ltF_iff]; omega
theorem ltF_or {a b : Int × Int} (h : a.1 ≠ b.1) : ltF a b = true ∨ ltF b a = true := by
  rw [ltF_iff, ltF_iff]; omega
def UpF (l : List (Int × Int)) : Prop := l.Pairwise fun a b => a.1 < b.1
theorem UpF.apart {l : List (Int × Int)} (h : UpF l) : l.Pairwise fun a b => a.1 ≠ b.1 := h.imp fun {a b} k e => by omega
/-- in the order of the numbers -/
def putP (n : Int) : List (Int × Int) → List (Int × Int)
  | [] => [(n, 1)]
  | p :: r => if p.1 < n then p :: putP n r else if p.1 = n then (n, p.2 + 1) :: r else (n, 1) :: p :: r
theorem putP_mem {n : Int} : ∀ {l : List (Int × Int)}, UpF l → ∀ p, p ∈ putP n l ↔ p = (n, lookM l n + 1) ∨ (p ∈ l ∧ p.1 ≠ n)
  | [], _, p => by simp [putP, lookM]
  | q :: r, hd, p => by
    have hc := List.pairwise_cons.1 hd
    unfold putP
    by_cases h1 : q.1 < n
    · have hq : (q.1 == n) = false := beq_eq_false_iff_ne.2 (by omega)
      have hl : lookM (q :: r) n = lookM r n := by unfold lookM; rw [List.find?_cons, hq]
      rw [if_pos h1, List.mem_cons, putP_mem hc.2, hl, List.mem_cons]
      constructor
      · rintro (rfl | h | ⟨h, h2⟩)
        · exact .inr ⟨.inl rfl, by omega⟩
        · exact .inl h
        · exact .inr ⟨.inr h, h2⟩
      · rintro (h | ⟨rfl | h, h2⟩)
        · exact .inr (.inl h)
        · exact .inl rfl
        · exact .inr (.inr ⟨h, h2⟩)
    · rw [if_neg h1]
      by_cases h2 : q.1 = n
      · have hl : lookM (q :: r) n = q.2 := by unfold lookM; rw [List.find?_cons, beq_iff_eq.2 h2]; rfl
        rw [if_pos h2, List.mem_cons, hl, List.mem_cons]
        constructor
        · rintro (h | h)
          · exact .inl h
          · exact .inr ⟨.inr h, by have := hc.1 p h; omega⟩
        · rintro (h | ⟨rfl | h, h3⟩)
          · exact .inl h
          · exact absurd h2 h3
          · exact .inr h
      · have hno : ∀ x ∈ q :: r, x.1 ≠ n := fun x hx => by
          rcases List.mem_cons.1 hx with rfl | hx
          · exact h2
          · have := hc.1 x hx; omega
        have hl : lookM (q :: r) n = 0 := by
          unfold lookM
          rw [List.find?_eq_none.2 fun x hx k => hno x hx (eq_of_beq k)]; rfl
        rw [if_neg h2, List.mem_cons, hl]
        constructor
        · rintro (h | h)
          · exact .inl h
          · exact .inr ⟨h, hno p h⟩
        · rintro (h | ⟨h, _⟩)
          · exact .inl h
          · exact .inr h
theorem putP_up {n : Int} : ∀ {l : List (Int × Int)}, UpF l → UpF (putP n l)
  | [], _ => List.pairwise_singleton _ _
  | q :: r, hd => by
    have hc := List.pairwise_cons.1 hd
    unfold putP
    by_cases h1 : q.1 < n
    · rw [if_pos h1]
      refine List.pairwise_cons.2 ⟨fun p hp => ?_, putP_up hc.2⟩
      rcases (putP_mem hc.2 p).1 hp with rfl | ⟨h, _⟩
      · exact h1
      · exact hc.1 p h
    · rw [if_neg h1]
      by_cases h2 : q.1 = n
      · rw [if_pos h2]
        exact List.pairwise_cons.2 ⟨fun p hp => by have := hc.1 p hp; show n < p.1; omega, hc.2⟩
      · rw [if_neg h2]
        refine List.pairwise_cons.2 ⟨fun p hp => ?_, hd⟩
        rcases List.mem_cons.1 hp with rfl | hp
        · show n < p.1; omega
        · have := hc.1 p hp; show n < p.1; omega
theorem putP_counts {l : List (Int × Int)} {ns : List Int} (h : Counts l ns) (hu : UpF l) (n : Int) : Counts (putP n l) (ns ++ [n]) := by
  refine ⟨(putP_up hu).apart, fun p => ?_⟩
  rw [putP_mem hu, ← mem_putM h.1]
  exact (h.step n).2 p
def countP' (ns : List Int) : List (Int × Int) := ns.foldl (fun l n => putP n l) []
theorem countP_gen : ∀ (ns pre : List Int) (l : List (Int × Int)), Counts l pre → UpF l → Counts (ns.foldl (fun l n => putP n l) l) (pre ++ ns) ∧ UpF (ns.foldl (fun l n => putP n l) l)
  | [], pre, l, h, hu => by rw [List.append_nil]; exact ⟨h, hu⟩
  | n :: ns, pre, l, h, hu => by
    rw [List.foldl_cons, show pre ++ n :: ns = (pre ++ [n]) ++ ns by simp]
    exact countP_gen ns (pre ++ [n]) _ (putP_counts h hu n) (putP_up hu)
theorem countP_ok (ns : List Int) : Counts (countP' ns) ns ∧ UpF (countP' ns) := by
  have := countP_gen ns [] [] ⟨List.Pairwise.nil, by simp⟩ List.Pairwise.nil
  simpa [countP'] using this
/-- sorting by how many, what comes later behind -/
def insP (p : Int × Int) : List (Int × Int) → List (Int × Int)
  | [] => [p]
  | q :: r => if p.2 ≤ q.2 then q :: insP p r else p :: q :: r
def sortP (l : List (Int × Int)) : List (Int × Int) := l.foldl (fun acc p => insP p acc) []
theorem insP_mem {p x : Int × Int} : ∀ {l : List (Int × Int)}, x ∈ insP p l ↔ x = p ∨ x ∈ l
  | [] => by simp [insP]
  | q :: r => by
    unfold insP
    split
    · rw [List.mem_cons, insP_mem (l := r), List.mem_cons]
      constructor
      · rintro (h | h | h) <;> simp [h]
      · rintro (h | h | h) <;> simp [h]
    · simp [List.mem_cons]
theorem insP_sorted {p : Int × Int} : ∀ {l : List (Int × Int)}, (l.Pairwise fun a b => ltF a b = true) → (∀ q ∈ l, q.1 < p.1) → (insP p l).Pairwise fun a b => ltF a b = true
  | [], _, _ => List.pairwise_singleton _ _
  | q :: r, hs, hp => by
    have hc := List.pairwise_cons.1 hs
    have hq := hp q (by simp)
    unfold insP
    split
    · rename_i h
      refine List.pairwise_cons.2 ⟨fun x hx => ?_, insP_sorted hc.2 fun y hy => hp y (by simp [hy])⟩
      rcases insP_mem.1 hx with rfl | hx
      · rw [ltF_iff]; omega
      · exact hc.1 x hx
    · rename_i h
      refine List.pairwise_cons.2 ⟨fun x hx => ?_, hs⟩
      have h0 : ltF p q = true := by rw [ltF_iff]; omega
      rcases List.mem_cons.1 hx with rfl | hx
      · exact h0
      · exact ltF_tr h0 (hc.1 x hx)
theorem sortP_gen : ∀ (l acc : List (Int × Int)), UpF l → (acc.Pairwise fun a b => ltF a b = true) → (∀ q ∈ acc, ∀ p ∈ l, q.1 < p.1) →
    ((l.foldl (fun acc p => insP p acc) acc).Pairwise fun a b => ltF a b = true) ∧ ∀ x, x ∈ l.foldl (fun acc p => insP p acc) acc ↔ x ∈ acc ∨ x ∈ l
  | [], acc, _, hs, _ => ⟨hs, by simp⟩
  | p :: l, acc, hu, hs, h => by
    have hc := List.pairwise_cons.1 hu
    have ih := sortP_gen l (insP p acc) hc.2 (insP_sorted hs fun q hq => h q hq p (by simp)) (fun q hq x hx => by
      rcases insP_mem.1 hq with rfl | hq
      · exact hc.1 x hx
      · exact h q hq x (by simp [hx]))
    rw [List.foldl_cons]
    refine ⟨ih.1, fun x => ?_⟩
    rw [ih.2, insP_mem, List.mem_cons]
    constructor
    · rintro ((h | h) | h) <;> simp [h]
    · rintro (h | h | h) <;> simp [h]
/-- what the program sorts, whatever the order of the map, is what the reference makes -/
theorem facets_same (ns : List Int) : ((sortP (countP' ns)).Pairwise fun a b => ltF a b = true) ∧ ∀ x, x ∈ sortP (countP' ns) ↔ x ∈ countM ns := by
  obtain ⟨h1, h2⟩ := countP_ok ns
  have h3 := count_ok ns
  have h4 := sortP_gen (countP' ns) [] h2 List.Pairwise.nil (by simp)
  refine ⟨h4.1, fun x => ?_⟩
  unfold sortP
  rw [h4.2, h3.2, h1.2]; simp
theorem countM_apart (ns : List Int) : (countM ns).Pairwise fun a b => ltF a b = true ∨ ltF b a = true := (count_ok ns).1.imp fun {a b} h => ltF_or h
end Go.Fk
