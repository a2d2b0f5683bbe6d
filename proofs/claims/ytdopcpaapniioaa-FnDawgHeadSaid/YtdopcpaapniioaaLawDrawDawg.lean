/-
  Drawn words are in order; a drawn automaton is of some. Of no program.
-/
import Derived.Test.YtdopcpaapniioaaLawDrawW
import Derived.Test.YtdopcpaapniioaaLawRdOne
import Derived.Test.YtdopcpaapniioaaLawPutS
import Derived.Test.YtdopcpaapniioaaLawVisit
namespace Go.Fk
open Go

theorem less_neg {a b : Str} (h : strLess a b = false) (hne : a ≠ b) : strLess b a = true := by
  have := less_total a b
  rw [h] at this
  have hb : (b == a) = false := beq_eq_false_iff_ne.2 (fun e => hne e.symm)
  rw [hb, Bool.or_false] at this
  exact this.symm
theorem put_asc (F : Nat) (list : List Str) (s : Str) (hF : list.length < F) (hl : list.length ≤ 100000) (ha : Asc list) : ∃ r, M.spec_l7Put F list s = some r ∧ r.length ≤ list.length + 1 ∧ (∀ x ∈ r, x ∈ list ∨ x = s) ∧ Asc r := by
  unfold M.spec_l7Put
  have key := fun f step fin => whileM_run (σ := Int) (τ := Int) (f := f) (Post := fun t => ∃ k : Nat, t = (k : Int) ∧ k ≤ list.length ∧ (∀ j x, j < k → list[j]? = some x → strLess x s = true) ∧ ∀ x, list[k]? = some x → strLess x s = false) (fun i s' => s' = (i : Int) ∧ ∀ j x, j < i → list[j]? = some x → strLess x s = true) list.length step fin list.length 0 (0 : Int) F (by omega) hF ⟨rfl, fun j x h => by omega⟩
  generalize hf : (fun (s14 : Int) => _ : Int → Option (Int ⊕ Int)) = f
  obtain ⟨t, ht, k, rfl, hk, hk1, hk2⟩ := key f (fun i s' hi hs => by
    obtain ⟨hs, hs2⟩ := hs
    subst hf hs
    dsimp only
    rw [decide_eq_true (by omega), cond_true, getI_at hi, Option.bind_some, Option.bind_some, w64_up (by omega)]
    cases h : strLess list[i] s
    · exact .inr ⟨_, rfl, i, rfl, by omega, hs2, fun x hx => by
        rw [List.getElem?_eq_getElem hi] at hx
        cases hx; exact h⟩
    · exact .inl ⟨_, rfl, rfl, fun j x hj hx => by
        by_cases e : j = i
        · subst e
          rw [List.getElem?_eq_getElem hi] at hx
          cases hx; exact h
        · exact hs2 j x (by omega) hx⟩) (fun s' hs => by
    obtain ⟨hs, hs2⟩ := hs
    subst hf hs
    dsimp only
    rw [decide_eq_false (by omega)]
    exact ⟨_, rfl, _, rfl, Nat.le_refl _, hs2, fun x hx => by
      have := (List.getElem?_eq_some_iff.1 hx).1
      omega⟩)
  rw [ht, Option.bind_some, Option.bind_some]
  have hlen : ([] : List Str).length = 0 := rfl
  have fin : (∀ x, list[k]? = some x → x ≠ s) → ∃ r, (Option.bind (subL list 0 (k : Int)) fun x75 => (Option.bind (catL 16 ([] : List Str) x75) fun x82 => (Option.bind (catL 16 x82 ([s] : List Str)) fun x100 => (Option.bind (subL list (k : Int) list.length) fun x111 => (Option.bind (catL 16 x100 x111) fun x118 => (some x118)))))) = some r ∧ r.length ≤ list.length + 1 ∧ (∀ x ∈ r, x ∈ list ∨ x = s) ∧ Asc r := fun hne => by
    have h1 : subL list 0 (k : Int) = some (list.take k) := by
      have := subL_n (xs := list) (l := 0) (h := k) (by omega) hk
      simpa using this
    have h2 : subL list (k : Int) (list.length : Int) = some (list.drop k) := by
      have := subL_n (xs := list) (l := k) (h := list.length) hk (Nat.le_refl _)
      simpa using this
    have l1 : (list.take k).length ≤ list.length := by simp; omega
    have l2 : (list.drop k).length ≤ list.length := by simp
    rw [h1, Option.bind_some, catL_in (by omega), List.nil_append, Option.bind_some, catL_in (by simp only [List.length_singleton]; omega), Option.bind_some, h2, Option.bind_some, catL_in (by simp only [List.length_append, List.length_singleton]; omega)]
    refine ⟨_, rfl, ?_, fun x hx => ?_, ?_⟩
    · simp only [List.length_append, List.length_take, List.length_drop, List.length_singleton]; omega
    · rcases List.mem_append.1 hx with hx | hx
      · rcases List.mem_append.1 hx with hx | hx
        · exact .inl (List.mem_of_mem_take hx)
        · exact .inr (List.mem_singleton.1 hx)
      · exact .inl (List.mem_of_mem_drop hx)
    · have hlt : ∀ x ∈ list.take k, strLess x s = true := fun x hx => by
        obtain ⟨j, hj⟩ := List.mem_iff_getElem?.1 hx
        have hj1 := (List.getElem?_eq_some_iff.1 hj).1
        rw [List.length_take] at hj1
        rw [List.getElem?_take, if_pos (by omega)] at hj
        exact hk1 j x (by omega) hj
      have hgt : ∀ x ∈ list.drop k, strLess s x = true := fun x hx => by
        obtain ⟨j, hj⟩ := List.mem_iff_getElem?.1 hx
        rw [List.getElem?_drop] at hj
        have hj1 := (List.getElem?_eq_some_iff.1 hj).1
        have hj2 := (List.getElem?_eq_some_iff.1 hj).2
        have hks : list[k]? = some (list[k]'(by omega)) := List.getElem?_eq_getElem (by omega)
        have h0 := less_neg (hk2 _ hks) (hne _ hks)
        by_cases e : j = 0
        · subst e
          rw [← hj2]; exact h0
        · have := List.pairwise_iff_getElem.1 ha k (k + j) (by omega) hj1 (by omega)
          rw [hj2] at this
          exact sless_trans h0 this
      have hsp : Asc (list.take k ++ list.drop k) := by rw [List.take_append_drop]; exact ha
      have hsp := List.pairwise_append.1 hsp
      refine List.pairwise_append.2 ⟨List.pairwise_append.2 ⟨hsp.1, List.pairwise_singleton _ _, fun a h b hb => ?_⟩, hsp.2.1, fun a h b hb => ?_⟩
      · rw [List.mem_singleton.1 hb]; exact hlt a h
      · rcases List.mem_append.1 h with h | h
        · exact hsp.2.2 a h b hb
        · rw [List.mem_singleton.1 h]; exact hgt b hb
  by_cases hlt : k < list.length
  · rw [decide_eq_true (by omega), cond_true, getI_at hlt, Option.bind_some, Option.bind_some]
    cases he : list[k] == s
    · exact fin fun x hx => by
        rw [List.getElem?_eq_getElem hlt] at hx
        cases hx
        exact beq_eq_false_iff_ne.1 he
    · exact ⟨_, rfl, by omega, fun x hx => .inl hx, ha⟩
  · rw [decide_eq_false (by omega), cond_false, Option.bind_some, cond_false]
    exact fin fun x hx => by
      have := (List.getElem?_eq_some_iff.1 hx).1
      omega
/-- what drawn words are -/
def DrawnUp (k : Nat) (ws : List Str) : Prop := ws.length ≤ k ∧ Asc ws ∧ ∀ w ∈ ws, wordS w = true ∧ w.length ≤ 12
theorem wordsUp_ok (F : Nat) (r : GL30Rd) (hr : r.b_.length ≤ 2000 ∧ 0 ≤ r.p_ ∧ r.p_ ≤ 1000000) (hF : 20 ≤ F) : ∃ ws p, M.spec_l30Words F r = some (ws, ⟨r.b_, p⟩) ∧ r.p_ ≤ p ∧ p ≤ r.p_ + 100 ∧ DrawnUp 8 ws := by
  obtain ⟨h1, h2, h3⟩ := hr
  unfold M.spec_l30Words
  obtain ⟨n, hn, n0, n1⟩ := pick_ok F r 9 ⟨h1, h2, by omega⟩
  have n1 := n1 (by decide)
  rw [hn, Option.bind_some]
  dsimp only
  generalize hf : (fun (s34 : (List Str) × Int × GL30Rd) => _ : (List Str) × Int × GL30Rd → Option (((List Str) × Int × GL30Rd) ⊕ ((List Str) × GL30Rd))) = f
  have key : ∀ (k : Nat) (ws : List Str) (p : Int) (F : Nat), k + 1 ≤ F → 0 ≤ p → p + 2 * k ≤ 2000000 → DrawnUp (8 - k) ws → k ≤ 8 → ∃ ws' p', whileM f F (ws, (k : Int), ⟨r.b_, p⟩) = some (ws', ⟨r.b_, p'⟩) ∧ p ≤ p' ∧ p' ≤ p + 2 * k ∧ DrawnUp 8 ws' := by
    intro k
    induction k with
    | zero =>
      intro ws p F hF _ _ hd _
      obtain ⟨F, rfl⟩ : ∃ G, F = G + 1 := ⟨F - 1, by omega⟩
      rw [whileM]
      subst hf
      exact ⟨ws, p, rfl, by omega, by omega, hd⟩
    | succ k ih =>
      intro ws p F' hF' p0 p1 hs hk
      obtain ⟨F', rfl⟩ : ∃ G, F' = G + 1 := ⟨F' - 1, by omega⟩
      obtain ⟨b, hbm, hb⟩ := of_ok F ⟨r.b_, p⟩ ([([97] : Str), ([99, 97, 116] : Str), ([99, 97, 116, 115] : Str), ([99, 97, 114] : Str), ([99, 97, 114, 115] : Str), ([100, 111, 103] : Str), ([100, 111, 103, 115] : Str), ([100, 111] : Str), ([116, 97, 112] : Str), ([116, 97, 112, 115] : Str), ([116, 111, 112] : Str), ([116, 111, 112, 115] : Str), ([114, 117, 110] : Str)] : List Str) ⟨h1, p0, by simp only; omega⟩ (by simp)
      have hbl := (by decide : ∀ s ∈ ([([97] : Str), ([99, 97, 116] : Str), ([99, 97, 116, 115] : Str), ([99, 97, 114] : Str), ([99, 97, 114, 115] : Str), ([100, 111, 103] : Str), ([100, 111, 103, 115] : Str), ([100, 111] : Str), ([116, 97, 112] : Str), ([116, 97, 112, 115] : Str), ([116, 111, 112] : Str), ([116, 111, 112, 115] : Str), ([114, 117, 110] : Str)] : List Str), wordS s = true ∧ s.length ≤ 12) b hbm
      obtain ⟨ws2, hw2, hl2, hm2, ha2⟩ := put_asc F ws b (by have := hs.1; omega) (by have := hs.1; omega) hs.2.1
      have hstep : f (ws, ((k + 1 : Nat) : Int), ⟨r.b_, p⟩) = some (.inl (ws2, (k : Int), ⟨r.b_, p + 1⟩)) := by
        rw [← hf]
        dsimp only
        rw [decide_eq_true (by omega), cond_true, hb, Option.bind_some]
        dsimp only
        have c3 : w64 (((k + 1 : Nat) : Int) - 1) = (k : Int) := by rw [w64_of ⟨by omega, by omega⟩]; omega
        rw [hw2, Option.bind_some, c3]
      rw [whileM, hstep]
      simp only [Option.bind_some, Sum.elim_inl]
      obtain ⟨ws', p', hw, a1, a2, a3⟩ := ih ws2 (p + 1) F' (by omega) (by omega) (by omega) ⟨by have := hs.1; omega, ha2, fun x hx => by
        rcases hm2 x hx with h | rfl
        · exact hs.2.2 x h
        · exact hbl⟩ (by omega)
      exact ⟨ws', p', hw, by omega, by omega, a3⟩
  obtain ⟨k, rfl⟩ := Int.eq_ofNat_of_zero_le n0
  obtain ⟨s', p', hw, a1, a2, a3⟩ := key k [] (r.p_ + 1) F (by omega) (by omega) (by omega) ⟨by simp, List.Pairwise.nil, by simp⟩ (by omega)
  rw [hw]
  exact ⟨s', p', rfl, by omega, by omega, a3⟩
theorem DrawnUp.up {ws : List Str} (h : DrawnUp 8 ws) : Up ws := ⟨h.2.1, fun w hw => (h.2.2 w hw).1, by have := h.1; omega⟩
/-- a drawn automaton: not too big -/
def DawgFit (d : Sts) : Prop := d.length ≤ 1000 ∧ ∀ s ∈ d, s.Arcs.length ≤ 1000
theorem DawgFit.set {d : Sts} (h : DawgFit d) (i : Nat) {x : GState} (hx : x.Arcs.length ≤ 1000) : DawgFit (d.set i x) :=
  ⟨by rw [List.length_set]; exact h.1, fun s hs => by
    rcases List.mem_or_eq_of_mem_set hs with h1 | rfl
    · exact h.2 s h1
    · exact hx⟩
theorem drawnDawg_ok (F : Nat) (r : GL30Rd) (hr : r.b_.length ≤ 2000 ∧ 0 ≤ r.p_ ∧ r.p_ ≤ 1000000) (hF : 4000000 ≤ F) : ∃ d p, M.spec_l30Dawg F r = some (d, ⟨r.b_, p⟩) ∧ r.p_ ≤ p ∧ p ≤ r.p_ + 200 ∧ DawgFit d := by
  obtain ⟨h1, h2, h3⟩ := hr
  unfold M.spec_l30Dawg
  obtain ⟨ws, p, hw, p0, p1, hd⟩ := wordsUp_ok F r ⟨h1, h2, h3⟩ (by omega)
  have hm : 1000 ≤ maxLen := by decide
  have hi := dawg_of_up hd.up
  have hpos := hi.pos
  obtain ⟨hg, hl⟩ := dawg_good ws
  have hfit : DawgFit (dawgS ws) := ⟨by omega, fun s hs => by have := hg.few s hs; omega⟩
  rw [hw, Option.bind_some, spec_dawg F ws hF (by have := hd.1; omega) (by have := hd.1; omega) (fun w h => by have := (hd.2.2 w h).2; omega), Option.bind_some]
  dsimp only
  generalize dawgS ws = d at *
  obtain ⟨k, hk, k0, k1⟩ := pick_ok F ⟨r.b_, p⟩ (d.length : Int) ⟨h1, by simp only; omega, by simp only; omega⟩
  have k1 := k1 (by omega)
  rw [hk, Option.bind_some]
  dsimp only
  obtain ⟨q, hq, _, _⟩ := pick_ok F ⟨r.b_, p + 1⟩ 14 ⟨h1, by simp only; omega, by simp only; omega⟩
  rw [hq, Option.bind_some]
  dsimp only
  obtain ⟨k, rfl⟩ := Int.eq_ofNat_of_zero_le k0
  have hk : k < d.length := by omega
  have hx := hfit.2 d[k] (List.getElem_mem hk)
  have hdone : ∃ d' p', (some (d, (⟨r.b_, p + 1 + 1⟩ : GL30Rd)) : Option ((List GState) × GL30Rd)) = some (d', ⟨r.b_, p'⟩) ∧ r.p_ ≤ p' ∧ p' ≤ r.p_ + 200 ∧ DawgFit d' := ⟨d, _, rfl, by omega, by omega, hfit⟩
  rw [getI_at hk, Option.bind_some, Option.bind_some, Option.bind_some]
  cases q == (0 : Int) with
  | true => exact ⟨_, _, rfl, by omega, by omega, hfit.set _ hx⟩
  | false =>
    rw [cond_false]
    cases q == (1 : Int) with
    | true => exact ⟨_, _, rfl, by omega, by omega, hfit.set _ hx⟩
    | false =>
      rw [cond_false]
      cases q == (2 : Int) with
      | false => exact hdone
      | true =>
        rw [cond_true]
        by_cases ha : (0 : Int) < (d[k].Arcs.length : Int)
        · obtain ⟨t, ht, hone⟩ := one_ok F ⟨r.b_, p + 1 + 1⟩ [-1, 0, (k : Int), (d.length : Int)] ⟨h1, (by omega : 0 ≤ p + 1 + 1), (by omega : p + 1 + 1 ≤ 1000000000)⟩ (by simp)
          rw [decide_eq_true ha, cond_true, catL_in (by simp only [List.length_nil]; omega), List.nil_append, Option.bind_some, hone, Option.bind_some]
          have hg0 : getI d[k].Arcs (0 : Int) = some (d[k].Arcs[0]'(by omega)) := getI_at (i := 0) (by omega)
          rw [hg0, Option.bind_some]
          exact ⟨_, p + 1 + 1 + 1, rfl, by omega, by omega, hfit.set _ (by simp only [List.length_set]; exact hx)⟩
        · rw [decide_eq_false ha]; exact hdone
end Go.Fk
