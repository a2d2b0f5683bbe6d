/-
  The state of a call's memory: what is known of old and new blocks; the operations on memory: of no program.
-/
import Derived.Test.YtdopcpaapniioaaCoreB
namespace Go.Fk
open Go

/-- A block that the call owns (or none), and what is known of it: of its content and of the cells of it that are in K. -/
structure Item where
  g : Option Nat
  side : Prop
  ok : Option Obj → (Nat → Option Value) → Prop
/-- An object: the block holds just these cells; none is in K. -/
def obj (g : Nat) (cs : List Value) (T : TypeId) (fr : Nat × Nat := (0, 0)) : Item :=
  ⟨some g, True, fun o k => (o = some (.cells cs.toArray T fr) ∧ (fr = (0, 0) ∨ cs.length ≤ fr.1)) ∧ ∀ i, k i = none⟩
/-- A slice to whose end may be appended: nil, or it begins its block, and no cell behind its end is in K. -/
def tail (v : Value) (T : TypeId) (sz : Nat) : Item :=
  ⟨v.ownBlock, v = .slice none 0 0 ∨ ∃ g n cap, v = .slice (some ⟨g, 0, none⟩) n cap ∧ n ≤ cap ∧ cap ≤ maxLen,
   fun o k => ∃ g n cap cur, v = .slice (some ⟨g, 0, none⟩) n cap ∧ o = some (.cells cur T (0, 0)) ∧ cur.size = cap * sz ∧ ∀ i, n * sz ≤ i → k i = none⟩
def Item.on (it : Item) (w : World) (K : KMap) : Prop := it.side ∧ ∀ b, it.g = some b → it.ok (w.heap[b]?) (K b)

structure SH (w0 : World) (K0 : KMap) (M : List Nat) (w : World) (K : KMap) (L : List Item) : Prop where
  os : w.os = w0.os
  tape : w.tape = w0.tape
  output : w.output = w0.output
  holds : Holds K w
  le : KLe K0 K
  size : w0.heap.size ≤ w.heap.size
  old : ∀ b, b < w0.heap.size → b ∉ M → w.heap[b]? = w0.heap[b]?
  oldK : ∀ b, b < w0.heap.size → b ∉ M → K b = K0 b
  items : ∀ it ∈ L, it.on w K
  lt : ∀ it ∈ L, ∀ b, it.g = some b → b < w.heap.size ∧ (w0.heap.size ≤ b ∨ b ∈ M)
  nodup : (L.filterMap Item.g).Nodup
  drawn : w0.drawn ≤ w.drawn

section
variable {w0 w w' : World} {K0 K K' : KMap} {M : List Nat} {L L' : List Item}
theorem SH.start (h : Holds K w) : SH w K [] w K [] :=
  ⟨rfl, rfl, rfl, h, .refl _, Nat.le_refl _, fun _ _ _ => rfl, fun _ _ _ => rfl, by simp, by simp, by simp, Nat.le_refl _⟩
theorem SH.below (h : SH w0 K0 [] w K L) : RowKit.Below w0.heap.size w0 w := ⟨h.os, h.tape, h.output, h.size, fun k hk => h.old k hk (by simp)⟩
theorem SH.perm (h : SH w0 K0 M w K L) (hp : L'.Perm L) : SH w0 K0 M w K L' :=
  ⟨h.os, h.tape, h.output, h.holds, h.le, h.size, h.old, h.oldK, fun it hi => h.items it (hp.mem_iff.1 hi), fun it hi => h.lt it (hp.mem_iff.1 hi), (hp.filterMap Item.g).nodup_iff.2 h.nodup, h.drawn⟩
theorem SH.front {it : Item} {p q : List Item} (h : SH w0 K0 M w K (p ++ it :: q)) : SH w0 K0 M w K (it :: (p ++ q)) := h.perm List.perm_middle.symm
theorem SH.drop {it : Item} (h : SH w0 K0 M w K (it :: L)) : SH w0 K0 M w K L :=
  ⟨h.os, h.tape, h.output, h.holds, h.le, h.size, h.old, h.oldK, fun it hi => h.items it (List.mem_cons_of_mem _ hi), fun it hi => h.lt it (List.mem_cons_of_mem _ hi), by
    have := h.nodup
    cases e : it.g with
    | none => rwa [List.filterMap_cons_none e] at this
    | some b => rw [List.filterMap_cons_some e] at this; exact (List.nodup_cons.1 this).2, h.drawn⟩
theorem SH.sublist (h : SH w0 K0 M w K L) (hs : L'.Sublist L) : SH w0 K0 M w K L' :=
  ⟨h.os, h.tape, h.output, h.holds, h.le, h.size, h.old, h.oldK, fun it hi => h.items it (hs.subset hi), fun it hi => h.lt it (hs.subset hi), (hs.filterMap Item.g).nodup h.nodup, h.drawn⟩
/-- A slice that is nil may be appended to. -/
theorem SH.nil (h : SH w0 K0 M w K L) (T : TypeId) (sz : Nat) : SH w0 K0 M w K (tail (.slice none 0 0) T sz :: L) :=
  ⟨h.os, h.tape, h.output, h.holds, h.le, h.size, h.old, h.oldK, by
    intro it hi
    rcases List.mem_cons.1 hi with rfl | hi
    · exact ⟨.inl rfl, fun b hb => by simp [tail, Value.ownBlock] at hb⟩
    · exact h.items it hi, by
    intro it hi b hb
    rcases List.mem_cons.1 hi with rfl | hi
    · simp [tail, Value.ownBlock] at hb
    · exact h.lt it hi b hb, by
    rw [List.filterMap_cons_none (by rfl)]; exact h.nodup, h.drawn⟩
theorem SH.drew (h : SH w0 K0 M w K L) : SH w0 K0 M w.drew K L := ⟨h.os, h.tape, h.output, h.holds, h.le, h.size, h.old, h.oldK, h.items, h.lt, h.nodup, Nat.le_succ_of_le h.drawn⟩
theorem SH.drewN (h : SH w0 K0 M w K L) (n : Nat) : SH w0 K0 M (w.drewN n) K L := ⟨h.os, h.tape, h.output, h.holds, h.le, h.size, h.old, h.oldK, h.items, h.lt, h.nodup, Nat.le_trans h.drawn (Nat.le_add_right _ _)⟩
theorem SH.ge_none (h : SH w0 K0 M w K L) {b : Nat} (hb : w.heap.size ≤ b) (o : Nat) : K b o = none := by
  cases e : K b o with
  | none => rfl
  | some v => have := h.holds.lt e; omega
/-- THE GENERAL STEP: one block (old and owned, or new) turns; K grows there alone. -/
theorem SH.step {g : Nat} {it : Item} (h : SH w0 K0 M w K L) (hos : w'.os = w.os) (htape : w'.tape = w.tape) (hout : w'.output = w.output)
    (hsize : w.heap.size ≤ w'.heap.size) (hg : w'.heap.size ≤ w.heap.size + 1) (hother : ∀ b, b < w.heap.size → b ≠ g → w'.heap[b]? = w.heap[b]?) (hgt : g < w'.heap.size)
    (hown : w0.heap.size ≤ g ∨ g ∈ M) (hnew : ∀ it ∈ L, it.g ≠ some g)
    (hK : ∀ b, b ≠ g → K' b = K b) (hKg : ∀ o v, K g o = some v → K' g o = some v) (hKh : ∀ o v, K' g o = some v → w'.cell? ⟨g, o, none⟩ = some v)
    (hit : it.g = some g) (hon : it.side ∧ it.ok (w'.heap[g]?) (K' g)) (hdr : w.drawn ≤ w'.drawn := by exact Nat.le_refl _) : SH w0 K0 M w' K' (it :: L) where
  drawn := Nat.le_trans h.drawn hdr
  os := hos.trans h.os
  tape := htape.trans h.tape
  output := hout.trans h.output
  holds := by
    intro b o v e
    by_cases hb : b = g
    · subst hb; exact hKh o v e
    · rw [hK b hb] at e
      have hlt := h.holds.lt e
      rw [World.cell?_of_block (w := w) (a := ⟨b, o, none⟩) (hother b hlt hb)]
      exact h.holds b o v e
  le := by
    intro b o v e
    have := h.le b o v e
    by_cases hb : b = g
    · subst hb; exact hKg o v this
    · rw [hK b hb]; exact this
  size := Nat.le_trans h.size hsize
  old := by
    intro b hb hm
    have hne : b ≠ g := by
      rintro rfl
      rcases hown with h1 | h1
      · omega
      · exact hm h1
    rw [hother b (by have := h.size; omega) hne]
    exact h.old b hb hm
  oldK := by
    intro b hb hm
    have hne : b ≠ g := by
      rintro rfl
      rcases hown with h1 | h1
      · omega
      · exact hm h1
    rw [hK b hne]
    exact h.oldK b hb hm
  items := by
    intro i hi
    rcases List.mem_cons.1 hi with rfl | hi
    · exact ⟨hon.1, fun b hb => by rw [hit] at hb; cases hb; exact hon.2⟩
    · have h1 := h.items i hi
      refine ⟨h1.1, fun b hb => ?_⟩
      have hne : b ≠ g := by rintro rfl; exact hnew i hi hb
      rw [hother b (h.lt i hi b hb).1 hne, hK b hne]
      exact h1.2 b hb
  lt := by
    intro i hi b hb
    rcases List.mem_cons.1 hi with rfl | hi
    · rw [hit] at hb; cases hb; exact ⟨hgt, hown⟩
    · have := h.lt i hi b hb
      exact ⟨by omega, this.2⟩
  nodup := by
    rw [List.filterMap_cons_some hit, List.nodup_cons]
    refine ⟨fun hmem => ?_, h.nodup⟩
    obtain ⟨i, hi, e⟩ := List.mem_filterMap.1 hmem
    exact hnew i hi e
end
end Go.Fk
