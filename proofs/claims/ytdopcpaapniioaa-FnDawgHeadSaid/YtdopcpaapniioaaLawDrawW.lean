/-
  The draws of words go through, whatever the code. Of no program.
-/
import Derived.Test.YtdopcpaapniioaaLawRdOf
import Derived.Test.YtdopcpaapniioaaLawLoop
namespace Go.Fk
open Go

theorem w64_up {i : Nat} (h : i < 9223372036854775807) : w64 ((i : Int) + 1) = ((i + 1 : Nat) : Int) := by rw [w64_of ⟨by omega, by omega⟩]; rfl
theorem subL_n {α : Type} {xs : List α} {l h : Nat} (h1 : l ≤ h) (h2 : h ≤ xs.length) : subL xs (l : Int) (h : Int) = some ((xs.take h).drop l) := by
  unfold subL
  rw [if_pos ⟨by omega, by omega, by omega⟩]
  simp
theorem catL_in {α : Type} {n : Nat} {xs ys : List α} (h : (xs.length + ys.length) * n ≤ 140737488355328) : catL n xs ys = some (xs ++ ys) := by rw [catL, if_pos h]
theorem putS_ok (F : Nat) (list : List Str) (s : Str) (hF : list.length < F) (hl : list.length ≤ 100000) : ∃ r, M.spec_l7Put F list s = some r ∧ r.length ≤ list.length + 1 ∧ ∀ x ∈ r, x ∈ list ∨ x = s := by
  unfold M.spec_l7Put
  have key := fun f step fin => whileM_run (σ := Int) (τ := Int) (f := f) (Post := fun t => ∃ k : Nat, t = (k : Int) ∧ k ≤ list.length) (fun i s => s = (i : Int)) list.length step fin list.length 0 (0 : Int) F (by omega) hF rfl
  generalize hf : (fun (s14 : Int) => _ : Int → Option (Int ⊕ Int)) = f
  obtain ⟨t, ht, k, rfl, hk⟩ := key f (fun i s' hi hs => by
    subst hf hs
    dsimp only
    rw [decide_eq_true (by omega), cond_true, getI_at hi, Option.bind_some, Option.bind_some, w64_up (by omega)]
    cases strLess list[i] s
    · exact .inr ⟨_, rfl, i, rfl, by omega⟩
    · exact .inl ⟨_, rfl, rfl⟩) (fun s' hs => by
    subst hf hs
    dsimp only
    rw [decide_eq_false (by omega)]
    exact ⟨_, rfl, _, rfl, Nat.le_refl _⟩)
  rw [ht, Option.bind_some, Option.bind_some]
  have hlen : ([] : List Str).length = 0 := rfl
  have fin : ∃ r, (Option.bind (subL list 0 (k : Int)) fun x75 => (Option.bind (catL 16 ([] : List Str) x75) fun x82 => (Option.bind (catL 16 x82 ([s] : List Str)) fun x100 => (Option.bind (subL list (k : Int) list.length) fun x111 => (Option.bind (catL 16 x100 x111) fun x118 => (some x118)))))) = some r ∧ r.length ≤ list.length + 1 ∧ ∀ x ∈ r, x ∈ list ∨ x = s := by
    have h1 : subL list 0 (k : Int) = some (list.take k) := by
      have := subL_n (xs := list) (l := 0) (h := k) (by omega) hk
      simpa using this
    have h2 : subL list (k : Int) (list.length : Int) = some (list.drop k) := by
      have := subL_n (xs := list) (l := k) (h := list.length) hk (Nat.le_refl _)
      simpa using this
    have l1 : (list.take k).length ≤ list.length := by simp; omega
    have l2 : (list.drop k).length ≤ list.length := by simp
    rw [h1, Option.bind_some, catL_in (by omega), List.nil_append, Option.bind_some, catL_in (by simp only [List.length_singleton]; omega), Option.bind_some, h2, Option.bind_some, catL_in (by simp only [List.length_append, List.length_singleton]; omega)]
    refine ⟨_, rfl, ?_, fun x hx => ?_⟩
    · simp only [List.length_append, List.length_take, List.length_drop, List.length_singleton]; omega
    · rcases List.mem_append.1 hx with hx | hx
      · rcases List.mem_append.1 hx with hx | hx
        · exact .inl (List.mem_of_mem_take hx)
        · exact .inr (List.mem_singleton.1 hx)
      · exact .inl (List.mem_of_mem_drop hx)
  by_cases hlt : k < list.length
  · rw [decide_eq_true (by omega), cond_true, getI_at hlt, Option.bind_some, Option.bind_some]
    cases list[k] == s
    · exact fin
    · exact ⟨_, rfl, by omega, fun x hx => .inl hx⟩
  · rw [decide_eq_false (by omega), cond_false, Option.bind_some, cond_false]
    exact fin
/-- what the drawn words are -/
def Drawn (k : Nat) (ws : List Str) : Prop := ws.length ≤ k ∧ ∀ w ∈ ws, w.length ≤ 12
theorem words_ok (F : Nat) (r : GL30Rd) (hr : r.b_.length ≤ 2000 ∧ 0 ≤ r.p_ ∧ r.p_ ≤ 1000000) (hF : 20 ≤ F) : ∃ ws p, M.spec_l30Words F r = some (ws, ⟨r.b_, p⟩) ∧ r.p_ ≤ p ∧ p ≤ r.p_ + 100 ∧ Drawn 8 ws := by
  obtain ⟨h1, h2, h3⟩ := hr
  unfold M.spec_l30Words
  obtain ⟨n, hn, n0, n1⟩ := pick_ok F r 9 ⟨h1, h2, by omega⟩
  have n1 := n1 (by decide)
  rw [hn, Option.bind_some]
  dsimp only
  generalize hf : (fun (s34 : (List Str) × Int × GL30Rd) => _ : (List Str) × Int × GL30Rd → Option (((List Str) × Int × GL30Rd) ⊕ ((List Str) × GL30Rd))) = f
  have key : ∀ (k : Nat) (ws : List Str) (p : Int) (F : Nat), k + 1 ≤ F → 0 ≤ p → p + 2 * k ≤ 2000000 → Drawn (8 - k) ws → k ≤ 8 → ∃ ws' p', whileM f F (ws, (k : Int), ⟨r.b_, p⟩) = some (ws', ⟨r.b_, p'⟩) ∧ p ≤ p' ∧ p' ≤ p + 2 * k ∧ Drawn 8 ws' := by
    intro k
    induction k with
    | zero =>
      intro ws p F hF _ _ hd _
      obtain ⟨F, rfl⟩ : ∃ G, F = G + 1 := ⟨F - 1, by omega⟩
      rw [whileM]
      subst hf
      exact ⟨ws, p, rfl, by omega, by omega, hd⟩
    | succ k ih =>
      intro ws p F' hF' p0 p1 hs hk
      obtain ⟨F', rfl⟩ : ∃ G, F' = G + 1 := ⟨F' - 1, by omega⟩
      obtain ⟨b, hbm, hb⟩ := of_ok F ⟨r.b_, p⟩ ([([97] : Str), ([99, 97, 116] : Str), ([99, 97, 116, 115] : Str), ([99, 97, 114] : Str), ([99, 97, 114, 115] : Str), ([100, 111, 103] : Str), ([100, 111, 103, 115] : Str), ([100, 111] : Str), ([116, 97, 112] : Str), ([116, 97, 112, 115] : Str), ([116, 111, 112] : Str), ([116, 111, 112, 115] : Str), ([114, 117, 110] : Str)] : List Str) ⟨h1, p0, by simp only; omega⟩ (by simp)
      have hbl : b.length ≤ 12 := (by decide : ∀ s ∈ ([([97] : Str), ([99, 97, 116] : Str), ([99, 97, 116, 115] : Str), ([99, 97, 114] : Str), ([99, 97, 114, 115] : Str), ([100, 111, 103] : Str), ([100, 111, 103, 115] : Str), ([100, 111] : Str), ([116, 97, 112] : Str), ([116, 97, 112, 115] : Str), ([116, 111, 112] : Str), ([116, 111, 112, 115] : Str), ([114, 117, 110] : Str)] : List Str), s.length ≤ 12) b hbm
      obtain ⟨ws2, hw2, hl2, hm2⟩ := putS_ok F ws b (by have := hs.1; omega) (by have := hs.1; omega)
      have hstep : f (ws, ((k + 1 : Nat) : Int), ⟨r.b_, p⟩) = some (.inl (ws2, (k : Int), ⟨r.b_, p + 1⟩)) := by
        rw [← hf]
        dsimp only
        rw [decide_eq_true (by omega), cond_true, hb, Option.bind_some]
        dsimp only
        have c3 : w64 (((k + 1 : Nat) : Int) - 1) = (k : Int) := by rw [w64_of ⟨by omega, by omega⟩]; omega
        rw [hw2, Option.bind_some, c3]
      rw [whileM, hstep]
      simp only [Option.bind_some, Sum.elim_inl]
      obtain ⟨ws', p', hw, a1, a2, a3⟩ := ih ws2 (p + 1) F' (by omega) (by omega) (by omega) ⟨by have := hs.1; omega, fun x hx => by
        rcases hm2 x hx with h | rfl
        · exact hs.2 x h
        · exact hbl⟩ (by omega)
      exact ⟨ws', p', hw, by omega, by omega, a3⟩
  obtain ⟨k, rfl⟩ := Int.eq_ofNat_of_zero_le n0
  obtain ⟨s', p', hw, a1, a2, a3⟩ := key k [] (r.p_ + 1) F (by omega) (by omega) (by omega) ⟨by simp, by simp⟩ (by omega)
  rw [hw]
  exact ⟨s', p', rfl, by omega, by omega, a3⟩
end Go.Fk
