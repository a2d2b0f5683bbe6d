/-
  slices.SortFunc over a call's state: out of the kit's contract. Of no program.
-/
import Derived.Test.YtdcmmhjhffcnhaaGreatCoreK
import Derived.Shelf.SlSortCmp.WholeK
import Derived.Sort.LotA
namespace Go.Fk
open Go

section
variable {w w0 : World} {K K0 : KMap} {M : List Nat} {L : List Item}
/-- A call that is handed nothing: behind it the world has grown, and has drawn. -/
theorem SH.grown (h : SH w0 K0 [] w K L) : ∃ (q : Nat) (os : Array Obj), w = Go.Sort.grow (w0.drewN q) os := by
  refine ⟨w.drawn - w0.drawn, w.heap.extract w0.heap.size w.heap.size, ?_⟩
  have h1 := h.os
  have h2 := h.tape
  have h3 := h.output
  have h4 := h.drawn
  have h5 := h.size
  have h6 := fun b hb => h.old b hb (by simp)
  obtain ⟨heap, tape, drawn, os, output⟩ := w
  obtain ⟨heap0, tape0, drawn0, os0, output0⟩ := w0
  simp only at h1 h2 h3 h4 h5 h6
  subst h1 h2 h3
  unfold Go.Sort.grow World.drewN
  simp only [World.mk.injEq, true_and]
  refine ⟨?_, by omega, trivial⟩
  apply Array.ext_getElem?
  intro i
  rcases Nat.lt_or_ge i heap0.size with hi | hi
  · rw [Array.getElem?_append_left hi, h6 i hi]
  · rw [Array.getElem?_append_right hi, Array.getElem?_extract]
    split
    · congr 1; omega
    · rw [Array.getElem?_eq_none]; omega
theorem SH.growN (h : SH w0 K0 M w K L) (os : Array Obj) (m : Nat) : SH w0 K0 M (Go.Sort.grow (Go.Sort.ahead w m) os) K L := by
  have hat : ∀ b, b < w.heap.size → (Go.Sort.grow (Go.Sort.ahead w m) os).heap[b]? = w.heap[b]? := fun b hb => by
    show (w.heap ++ os)[b]? = _
    rw [Array.getElem?_append_left hb]
  have hsz : w.heap.size ≤ (Go.Sort.grow (Go.Sort.ahead w m) os).heap.size := by
    show w.heap.size ≤ (w.heap ++ os).size
    simp
  refine ⟨h.os, h.tape, h.output, fun b o v e => ?_, h.le, Nat.le_trans h.size hsz, fun b hb hm => ?_, h.oldK, fun it hi => ?_, fun it hi b hb => ?_, h.nodup, Nat.le_trans h.drawn (Nat.le_add_right _ _)⟩
  · have hlt := h.holds.lt e
    rw [World.cell?_of_block (w := w) (a := ⟨b, o, none⟩) (hat b hlt)]
    exact h.holds b o v e
  · rw [hat b (Nat.lt_of_lt_of_le hb h.size)]
    exact h.old b hb hm
  · have h1 := h.items it hi
    exact ⟨h1.1, it.loc (fun b hb => ⟨(hat b (h.lt it hi b hb).1).symm, rfl⟩) h1.2⟩
  · have := h.lt it hi b hb
    exact ⟨Nat.lt_of_lt_of_le this.1 hsz, this.2⟩
end
section
open Go.Proofs Go.Shelf Go.Sort Go.Lib
variable {P : Program} {ρ : Ren} {β : Type} {w w0 : World} {K K0 : KMap} {M : List Nat} {Lst : List Item} {U : TypeId}
end
end Go.Fk
