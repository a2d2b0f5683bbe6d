/-
  A state of an automaton turns, or the first of its arcs: what is known behind. Of no program.
-/
import Derived.Test.YtdopcpaapniioaaCoreT
import Derived.Test.YtdopcpaapniioaaTypes
namespace Go.Fk
open Go

section
variable {K K' : KMap}
theorem arc_keep {b p : Nat} {v0 : Value} {a : Option Addr} {n c : Nat} {xs : List GArc} (h : SliceAt tGArc K a n c xs) (hsv : ∀ b' q z, K b' q = some z → (b' ≠ b ∨ q ≠ p) → K' b' q = some z)
    (hk : K b p = some v0) (h1 : ∀ z, v0 ≠ iv8 z) (h2 : ∀ z, v0 = .int .i64 z → ∃ q f, p = q + 1 ∧ K b q = some (.bool f)) : SliceAt tGArc K' a n c xs :=
  ⟨h.1, h.2.1, h.2.2.1, fun hc => let ⟨b', o, e1, h5⟩ := h.2.2.2 hc; ⟨b', o, e1, fun i x hx => let ⟨u, r, k⟩ := h5 i x hx; ⟨u, r, fun j d e => by
    refine hsv _ _ _ (k j d e) ?_
    have hu := r.1
    subst hu
    have hl : (Value.agg #[iv8 x.Byte, .int .i64 x.To]).cells.toList = [iv8 x.Byte, .int .i64 x.To] := rfl
    rw [hl] at k e
    by_cases hb : b' = b ∧ o + i * tGArc.size + j = p
    · obtain ⟨rfl, hp⟩ := hb
      have hkj := k j d e
      rw [hp, hk] at hkj
      injection hkj with hkj
      cases j with
      | zero =>
        simp only [List.getElem?_cons_zero, Option.some.injEq] at e
        exact absurd (hkj.trans e.symm) (h1 _)
      | succ j =>
        cases j with
        | zero =>
          simp only [List.getElem?_cons_succ, List.getElem?_cons_zero, Option.some.injEq] at e
          obtain ⟨q, f, hq, hf⟩ := h2 _ (hkj.trans e.symm)
          have h0 := k 0 _ rfl
          rw [show o + i * tGArc.size + 0 = q by omega, hf] at h0
          injection h0 with h0
          cases h0
        | succ j => simp at e
    · omega⟩⟩⟩
theorem state_turn {b p f o0 o n c : Nat} {v v0 : Value} {a : Option Addr} {d : List GState} {i : Int} {x x' : GState} (h : SliceAt tGState K a n c d) (hx : getI d i = some x) (ha : a = some ⟨b, o0, none⟩) (ho : o = o0 + i.toNat * tGState.size) (hp : p = o + f) (hf : f < 3)
    (hsv : ∀ b' q z, K b' q = some z → (b' ≠ b ∨ q ≠ p) → K' b' q = some z) (hv : K' b p = some v) (hk : K b p = some v0) (h1 : ∀ z, v0 ≠ iv8 z) (h2 : ∀ z, v0 = .int .i64 z → ∃ q f, p = q + 1 ∧ K b q = some (.bool f))
    (hnew : ∀ u, tGState.rel K u x → ∃ u', tGState.rel K' u' x' ∧ u'.cells.toList = u.cells.toList.set f v) : SliceAt tGState K' a n c (d.set i.toNat x') := by
  obtain ⟨g0, g1, g2⟩ := getI_some hx
  refine ⟨by rw [List.length_set]; exact h.1, h.2.1, h.2.2.1, fun hc => ?_⟩
  obtain ⟨b', o', e1, h5⟩ := h.2.2.2 hc
  rw [ha] at e1
  injection e1 with e1
  injection e1 with e1 e2 _
  subst e1 e2
  have hsz : tGState.size = 3 := rfl
  refine ⟨b, o0, ha, fun j y hy => ?_⟩
  by_cases hj : j = i.toNat
  · subst hj
    have hlt := (List.getElem?_eq_some_iff.1 g2).1
    rw [List.getElem?_set_self hlt] at hy
    cases hy
    obtain ⟨u, r, k⟩ := h5 _ _ g2
    obtain ⟨u', r', e'⟩ := hnew u r
    refine ⟨u', r', fun q z e => ?_⟩
    rw [e'] at e
    by_cases hq : q = f
    · subst hq
      have hlt2 : q < u.cells.toList.length := by
        have := (List.getElem?_eq_some_iff.1 e).1
        simpa using this
      rw [List.getElem?_set_self hlt2] at e
      cases e
      rw [← ho, ← hp]; exact hv
    · rw [List.getElem?_set_ne (Ne.symm hq)] at e
      exact hsv _ _ _ (k q z e) (.inr (by omega))
  · rw [List.getElem?_set_ne (Ne.symm hj)] at hy
    obtain ⟨u, r, k⟩ := h5 _ _ hy
    obtain ⟨a2, n2, c2, hu, hr, hs⟩ := r
    refine ⟨u, ⟨a2, n2, c2, hu, hr, arc_keep hs hsv hk h1 h2⟩, fun q z e => hsv _ _ _ (k q z e) (.inr ?_)⟩
    have hq : q < 3 := by
      have := (List.getElem?_eq_some_iff.1 e).1
      subst hu
      simpa [Value.cells] using this
    rw [hsz] at ho ⊢
    rcases Nat.lt_or_gt_of_ne hj with hlt | hlt
    · have : (j + 1) * 3 ≤ i.toNat * 3 := Nat.mul_le_mul_right _ hlt
      omega
    · have : (i.toNat + 1) * 3 ≤ j * 3 := Nat.mul_le_mul_right _ hlt
      omega
theorem hole_keep {g p : Nat} {v : Value} : ∀ b' q z, K b' q = some z → (b' ≠ g ∨ q ≠ p) → hole K g p v b' q = some z := fun b' q z e h => by rw [hole_other h]; exact e
theorem final_turn {b o0 o n c : Nat} {a : Option Addr} {d : List GState} {i : Int} {x : GState} {a2 : Option Addr} {n2 c2 : Nat} (h : SliceAt tGState K a n c d) (hx : getI d i = some x) (ha : a = some ⟨b, o0, none⟩) (ho : o = o0 + i.toNat * tGState.size)
    (hk : AtK K b o [.bool x.Final, .int .i64 x.Many, .slice a2 n2 c2]) (fin : Bool) : SliceAt tGState (hole K b (o + 0) (.bool fin)) a n c (d.set i.toNat ⟨fin, x.Many, x.Arcs⟩) := by
  have hk0 := hk 0 _ rfl
  have h1 : ∀ z, Value.bool x.Final ≠ iv8 z := fun z e => by cases e
  have h2 : ∀ z, Value.bool x.Final = .int .i64 z → ∃ q f, o + 0 = q + 1 ∧ K b q = some (.bool f) := fun z e => by cases e
  exact state_turn h hx ha ho rfl (by omega) hole_keep (hole_same _ _ _ _) hk0 h1 h2 (fun u ⟨a3, n3, c3, hu, hr, hs⟩ => ⟨_, ⟨a3, n3, c3, rfl, hr, arc_keep hs hole_keep hk0 h1 h2⟩, by subst hu; rfl⟩)
theorem many_turn {b o0 o n c : Nat} {a : Option Addr} {d : List GState} {i : Int} {x : GState} {a2 : Option Addr} {n2 c2 : Nat} (h : SliceAt tGState K a n c d) (hx : getI d i = some x) (ha : a = some ⟨b, o0, none⟩) (ho : o = o0 + i.toNat * tGState.size)
    (hk : AtK K b o [.bool x.Final, .int .i64 x.Many, .slice a2 n2 c2]) {m : Int} (hm : rng64 m) : SliceAt tGState (hole K b (o + 1) (.int .i64 m)) a n c (d.set i.toNat ⟨x.Final, m, x.Arcs⟩) := by
  have hk0 := hk 1 _ rfl
  have h1 : ∀ z, Value.int .i64 x.Many ≠ iv8 z := fun z e => by cases e
  have h2 : ∀ z, Value.int .i64 x.Many = .int .i64 z → ∃ q f, o + 1 = q + 1 ∧ K b q = some (.bool f) := fun z e => ⟨o, _, rfl, hk 0 _ rfl⟩
  exact state_turn h hx ha ho rfl (by omega) hole_keep (hole_same _ _ _ _) hk0 h1 h2 (fun u ⟨a3, n3, c3, hu, hr, hs⟩ => ⟨_, ⟨a3, n3, c3, rfl, hm, arc_keep hs hole_keep hk0 h1 h2⟩, by subst hu; rfl⟩)
theorem arc_set {b o0 n c : Nat} {a : Option Addr} {ys : List GArc} {y : GArc} {t : Int} (h : SliceAt tGArc K a n c ys) (hy : getI ys 0 = some y) (ha : a = some ⟨b, o0, none⟩) (ht : rng64 t) : SliceAt tGArc (hole K b (o0 + 1) (.int .i64 t)) a n c (ys.set 0 ⟨y.Byte, t⟩) := by
  have g2 : ys[0]? = some y := (getI_some hy).2.2
  refine ⟨by rw [List.length_set]; exact h.1, h.2.1, h.2.2.1, fun hc => ?_⟩
  obtain ⟨b', o', e1, h5⟩ := h.2.2.2 hc
  rw [ha] at e1
  injection e1 with e1
  injection e1 with e1 e2 _
  subst e1 e2
  have hsz : tGArc.size = 2 := rfl
  refine ⟨b, o0, ha, fun j z hz => ?_⟩
  by_cases hj : j = 0
  · subst hj
    have hlt := (List.getElem?_eq_some_iff.1 g2).1
    rw [List.getElem?_set_self hlt] at hz
    cases hz
    obtain ⟨u, r, k⟩ := h5 _ _ g2
    have hu := r.1
    subst hu
    refine ⟨.agg #[iv8 y.Byte, .int .i64 t], ⟨rfl, ht⟩, fun q z e => ?_⟩
    cases q with
    | zero =>
      rw [hole_other (.inr (by omega))]
      exact k 0 z e
    | succ q =>
      cases q with
      | zero =>
        have e : some (Value.int .i64 t) = some z := e
        rw [show o0 + 0 * tGArc.size + (0 + 1) = o0 + 1 by omega, hole_same]; exact e
      | succ q => simp [Value.cells] at e
  · rw [List.getElem?_set_ne (Ne.symm hj)] at hz
    obtain ⟨u, r, k⟩ := h5 _ _ hz
    refine ⟨u, r, fun q w e => ?_⟩
    rw [hole_other (.inr (by rw [hsz]; omega))]
    exact k q w e
/-- a state has new arcs -/
theorem arcs_turn {Kb : KMap} {b o0 o n c n1 c1 : Nat} {a a1 : Option Addr} {d : List GState} {i : Int} {x : GState} {a2 : Option Addr} {n2 c2 : Nat} {ys : List GArc} (h : SliceAt tGState Kb a n c d) (hx : getI d i = some x) (ha : a = some ⟨b, o0, none⟩) (ho : o = o0 + i.toNat * tGState.size)
    (hk : AtK Kb b o [.bool x.Final, .int .i64 x.Many, .slice a2 n2 c2]) (hsv : ∀ b' q z, Kb b' q = some z → (b' ≠ b ∨ q ≠ o + 2) → K' b' q = some z) (hv : K' b (o + 2) = some (.slice a1 n1 c1)) (hs : SliceAt tGArc K' a1 n1 c1 ys) :
    SliceAt tGState K' a n c (d.set i.toNat ⟨x.Final, x.Many, ys⟩) := by
  have hk0 := hk 2 _ rfl
  have h1 : ∀ z, Value.slice a2 n2 c2 ≠ iv8 z := fun z e => by cases e
  have h2 : ∀ z, Value.slice a2 n2 c2 = .int .i64 z → ∃ q f, o + 2 = q + 1 ∧ Kb b q = some (.bool f) := fun z e => by cases e
  exact state_turn h hx ha ho rfl (by omega) hsv hv hk0 h1 h2 (fun u ⟨a3, n3, c3, hu, hr, _⟩ => ⟨_, ⟨a1, n1, c1, rfl, hr, hs⟩, by subst hu; rfl⟩)
end
end Go.Fk
