/-
  With one more word an automaton has that, and all that it had: in plain data. Of no program.
-/
import Derived.Test.YtdopcpaapniioaaLawDawgOf
namespace Go.Fk
open Go

theorem word_ok (F : Nat) (r : GL30Rd) (hr : RdOk r) : ∃ s, M.spec_l30Word F r = some (s, ⟨r.b_, r.p_ + 1⟩) ∧ wordS s = true := by
  unfold M.spec_l30Word
  obtain ⟨s, hm, hs⟩ := of_ok F r (l := ([([99, 97, 116] : Str), ([99, 97, 116, 115] : Str), ([99, 97, 114] : Str), ([99, 97, 114, 116] : Str), ([100, 111, 103] : Str), ([116, 97, 112] : Str), ([116, 111, 112, 115] : Str), ([97, 98, 99, 100, 101, 102, 103, 104, 105, 106, 107, 108] : Str), ([97] : Str), ([97, 99, 97, 116] : Str)] : List Str)) hr (by simp)
  rw [hs]
  exact ⟨s, rfl, (by decide : ∀ s ∈ ([([99, 97, 116] : Str), ([99, 97, 116, 115] : Str), ([99, 97, 114] : Str), ([99, 97, 114, 116] : Str), ([100, 111, 103] : Str), ([116, 97, 112] : Str), ([116, 111, 112, 115] : Str), ([97, 98, 99, 100, 101, 102, 103, 104, 105, 106, 107, 108] : Str), ([97] : Str), ([97, 99, 97, 116] : Str)] : List Str), wordS s = true) s hm⟩
theorem drawNear_ok (F : Nat) (code : List UInt8) : ∃ a b, M.spec_DrawNearFar F code = some (a, b) ∧ wordS a = true := by
  unfold M.spec_DrawNearFar
  obtain ⟨r, hr, h1, h2⟩ := open_ok F code
  rw [hr, Option.bind_some]
  obtain ⟨a, ha, hw⟩ := word_ok F r ⟨h1, by omega, by omega⟩
  rw [ha, Option.bind_some]
  dsimp only
  obtain ⟨x, hx, _⟩ := pick_ok F ⟨r.b_, r.p_ + 1⟩ 10 ⟨h1, by simp only; omega, by simp only; omega⟩
  rw [hx, Option.bind_some]
  dsimp only
  cases x == (0 : Int)
  · obtain ⟨b, hb, _⟩ := word_ok F ⟨r.b_, r.p_ + 1 + 1⟩ ⟨h1, by simp only; omega, by simp only; omega⟩
    rw [cond_false, hb]
    exact ⟨a, b, rfl, hw⟩
  · exact ⟨a, _, rfl, hw⟩
theorem foHas_ok (F : Nat) (ws : List Str) (s : Str) (hF : ws.length < F) (hl : ws.length < 9000000000000000000) : M.laws_foHas F ws s = some (decide (s ∈ ws)) := by
  unfold M.laws_foHas
  have key := fun f h h0 => find_while (p := fun x => x == s) (g := fun _ => true) (xs := ws) (f := f) h h0 ws.length 0 F (by omega) hF
  rw [show (0 : Int) = ((0 : Nat) : Int) from rfl, key _ (fun i x hx => ?_) ?_, List.drop_zero]
  · cases h : ws.findIdx? (fun x => x == s) with
    | some k =>
      obtain ⟨hk, h1, _⟩ := List.findIdx?_eq_some_iff_getElem.1 h
      simp only [beq_iff_eq] at h1
      have : s ∈ ws := by rw [← h1]; exact List.getElem_mem hk
      rw [decide_eq_true this]; rfl
    | none =>
      rw [List.findIdx?_eq_none_iff] at h
      have : s ∉ ws := fun hm => by have := h s hm; simp at this
      rw [decide_eq_false this]; rfl
  · rw [decide_eq_false (by omega)]; rfl
  · have hlt := (List.getElem?_eq_some_iff.1 hx).1
    rw [decide_eq_true (by omega), cond_true, getI_n, hx, Option.bind_some, w64_succ' (by omega)]
    cases x == s <;> rfl
theorem less_or {a b : Str} (h : strLess a b = false) (hne : a ≠ b) : strLess b a = true := by
  have := less_total a b
  rw [h] at this
  have hb : (b == a) = false := beq_eq_false_iff_ne.2 (fun e => hne e.symm)
  rw [hb, Bool.or_false] at this
  exact this.symm
theorem law_more (code more : List UInt8) : ∃ F, M.laws_FnDawgMore F code more = some true := by
  refine ⟨5000000, ?_⟩
  generalize hF : 5000000 = F
  unfold M.laws_FnDawgMore
  cases (decide ((1048576 : Int) < (code.length : Int)))
  case true => rfl
  rw [cond_false, Option.bind_some]
  cases (decide ((1048576 : Int) < (more.length : Int)))
  case true => rfl
  obtain ⟨ws, hw, hd1, hd2⟩ := drawDawgOf_ok F code (by omega)
  obtain ⟨s, s2, hs, hsw⟩ := drawNear_ok F more
  obtain ⟨hg, hl⟩ := dawg_good ws
  have hA : ∀ a ∈ dawgS ws, a.Arcs.length < F ∧ a.Arcs.length < 9000000000000000000 := fun a ha => by have := hg.few a ha; omega
  have hm : 1000 ≤ maxLen := by decide
  have hn : ∀ w ∈ ws, w.length < F ∧ w.length ≤ maxLen := fun w h => by have := hd2 w h; omega
  have hfo := foStates_self F (dawgS ws) (by omega) hA (by omega)
  have hsp := spec_dawg F ws (by omega) (by omega) (by omega) hn
  rw [cond_false, hw, Option.bind_some, hs, Option.bind_some, impl_dawg F ws (by omega), Option.bind_some]
  rw [hsp, Option.bind_some, hfo, Option.bind_some, Bool.not_true, cond_false, impl_up, Option.bind_some]
  cases hu : upS ws with
  | false =>
    rw [Bool.not_false, cond_true, Option.bind_some, cond_true, Option.bind_some, hfo]; rfl
  | true =>
    have hup := (up_iff ws).1 hu
    rw [Bool.not_true, cond_false]
    dsimp only
    rw [foHas_ok F ws s (by omega) (by omega), Option.bind_some]
    by_cases hin : s ∈ ws
    · rw [decide_eq_true hin, cond_true, Option.bind_some, cond_true, Option.bind_some, hfo]; rfl
    · rw [decide_eq_false hin, cond_false, Option.bind_some, decide_eq_false (by omega), cond_false]
      have hloop := fun f step fin => whileM_run (σ := Int) (τ := Int) (f := f) (Post := fun t => ∃ k : Nat, t = (k : Int) ∧ k ≤ ws.length ∧ (∀ j, (h : j < ws.length) → j < k → strLess ws[j] s = true) ∧ ((h : k < ws.length) → strLess s ws[k] = true))
        (fun i t => t = (i : Int) ∧ ∀ j, (h : j < ws.length) → j < i → strLess ws[j] s = true) ws.length step fin ws.length 0 (0 : Int) F (by omega) (by omega) ⟨rfl, fun j _ h => by omega⟩
      generalize hf : (fun (s138 : Int) => _ : Int → Option (Int ⊕ Int)) = f
      obtain ⟨t, ht, k, rfl, hk, hk1, hk2⟩ := hloop f (fun i t hi ht => by
        subst hf
        obtain ⟨rfl, hj⟩ := ht
        dsimp only
        rw [decide_eq_true (by omega), cond_true, getI_at hi, Option.bind_some, Option.bind_some, w64_succ' (by omega)]
        cases hl : strLess ws[i] s with
        | true =>
          refine .inl ⟨_, rfl, rfl, fun j h hj' => ?_⟩
          rcases Nat.lt_or_ge j i with h1 | h1
          · exact hj j h h1
          · obtain rfl : j = i := by omega
            exact hl
        | false =>
          refine .inr ⟨_, rfl, i, rfl, by omega, hj, fun h => less_or hl (fun e => hin (by rw [← e]; exact List.getElem_mem hi))⟩) (fun t ht => by
        subst hf
        obtain ⟨rfl, hj⟩ := ht
        dsimp only
        rw [decide_eq_false (by omega)]
        exact ⟨_, rfl, ws.length, rfl, Nat.le_refl _, hj, fun h => by omega⟩)
      rw [ht, Option.bind_some, Option.bind_some]
      have h1 : subL ws 0 (k : Int) = some (ws.take k) := by
        have := subL_n (xs := ws) (l := 0) (h := k) (by omega) hk
        simpa using this
      have h2 : subL ws (k : Int) (ws.length : Int) = some (ws.drop k) := by
        have := subL_n (xs := ws) (l := k) (h := ws.length) hk (Nat.le_refl _)
        simpa using this
      have l1 : (ws.take k).length = k := by simp; omega
      have l2 : (ws.drop k).length = ws.length - k := by simp
      have l0 : ([] : List Str).length = 0 := rfl
      rw [h1, Option.bind_some, catL_in (by omega), List.nil_append, Option.bind_some, catL_in (by simp only [List.length_singleton]; omega), Option.bind_some, h2, Option.bind_some, catL_in (by simp only [List.length_append, List.length_singleton]; omega), Option.bind_some]
      generalize hns : ws.take k ++ [s] ++ ws.drop k = ns
      have hnl : ns.length = ws.length + 1 := by rw [← hns]; simp only [List.length_append, List.length_singleton]; omega
      have e1' : ∀ i, i < k → ns[i]? = ws[i]? := fun i h => by
        rw [← hns, List.append_assoc, List.getElem?_append_left (by omega), List.getElem?_take, if_pos h]
      have e2 : ns[k]? = some s := by
        rw [← hns, List.append_assoc, List.getElem?_append_right (by omega), l1]; simp
      have e3' : ∀ i, k ≤ i → ns[i + 1]? = ws[i]? := fun i h => by
        rw [← hns, List.getElem?_append_right (by simp only [List.length_append, List.length_singleton]; omega), List.getElem?_drop]
        congr 1
        simp only [List.length_append, List.length_singleton]; omega
      have e1 : ∀ i, (h : i < k) → ns[i]? = some (ws[i]'(by omega)) := fun i h => (e1' i h).trans (List.getElem?_eq_getElem (by omega))
      have e3 : ∀ i, k ≤ i → (h : i < ws.length) → ns[i + 1]? = some ws[i] := fun i h h' => (e3' i h).trans (List.getElem?_eq_getElem h')
      have hnu : Up ns := by
        refine ⟨asc_of ns fun i hi => ?_, fun w hw' => ?_, by omega⟩
        · have g := fun (i : Nat) (x : Str) (hi : i < ns.length) (h : ns[i]? = some x) => (List.getElem?_eq_some_iff.1 h).2
          rcases Nat.lt_trichotomy (i + 1) k with h | h | h
          · rw [g i _ (by omega) (e1 i (by omega)), g (i + 1) _ hi (e1 (i + 1) h)]
            exact List.pairwise_iff_getElem.1 hup.asc i (i + 1) (by omega) (by omega) (by omega)
          · rw [g i _ (by omega) (e1 i (by omega))]
            have := g (i + 1) s hi (by rw [h]; exact e2)
            rw [this]
            exact hk1 i (by omega) (by omega)
          · rcases Nat.lt_or_ge k i with h' | h'
            · obtain ⟨m, rfl⟩ : ∃ m, i = m + 1 := ⟨i - 1, by omega⟩
              rw [g (m + 1) _ (by omega) (e3 m (by omega) (by omega)), g (m + 1 + 1) _ hi (e3 (m + 1) (by omega) (by omega))]
              exact List.pairwise_iff_getElem.1 hup.asc m (m + 1) (by omega) (by omega) (by omega)
            · obtain rfl : i = k := by omega
              rw [g i _ (by omega) e2, g (i + 1) _ hi (e3 i (by omega) (by omega))]
              exact hk2 (by omega)
        · rw [← hns] at hw'
          rcases List.mem_append.1 hw' with h | h
          · rcases List.mem_append.1 h with h | h
            · exact hup.word w (List.mem_of_mem_take h)
            · rw [List.mem_singleton.1 h]; exact hsw
          · exact hup.word w (List.mem_of_mem_drop h)
      obtain ⟨hg2, hl2⟩ := dawg_good ns
      have hi1 := dawg_of_up hup
      have hi2 := dawg_of_up hnu
      have r1 : ∀ x, M.impl_DawgRank F (dawgS ws) x = some (rankS ws x) := fun x => by rw [rank_ok F _ x (by omega) (by omega), okS_of hi1, hi1.wordsOf_eq]; rfl
      have r2 : ∀ x, M.impl_DawgRank F (dawgS ns) x = some (rankS ns x) := fun x => by rw [rank_ok F _ x (by omega) (by omega), okS_of hi2, hi2.wordsOf_eq]; rfl
      have r3 : ∀ (i : Nat) x, ns[i]? = some x → rankS ns x = (i : Int) := fun i x h => by
        obtain ⟨hlt, rfl⟩ := List.getElem?_eq_some_iff.1 h
        exact rankS_at hnu.asc hlt
      rw [impl_dawg F ns (by omega), Option.bind_some]
      have hclean := fun f h h0 => clean0' (n := ws.length) (τ := Bool) (f := f) F (by omega) h h0
      rw [hclean _ (fun i hi => ?_) ?_]
      · simp only [Option.bind_some, Sum.elim_inl]
        rw [r1, Option.bind_some, rankS_none hin, r2, r3 k s e2]
        simp
      · rw [decide_eq_false (by omega)]; rfl
      · rw [decide_eq_true (by omega), cond_true, w64_succ' (by omega)]
        by_cases hki : k ≤ i
        · rw [decide_eq_true (show (k : Int) ≤ (i : Int) by omega), cond_true, Option.bind_some, getI_at hi, Option.bind_some, r1, Option.bind_some, rankS_at hup.asc hi, beq_self_eq_true, Bool.not_true, cond_false, Option.bind_some, r2, Option.bind_some, r3 (i + 1) _ (e3 i hki hi), beq_self_eq_true]
          rfl
        · rw [decide_eq_false (show ¬ (k : Int) ≤ (i : Int) by omega), cond_false, Option.bind_some, getI_at hi, Option.bind_some, r1, Option.bind_some, rankS_at hup.asc hi, beq_self_eq_true, Bool.not_true, cond_false, Option.bind_some, r2, Option.bind_some, r3 i _ (e1 i (by omega)), beq_self_eq_true]
          rfl
end Go.Fk
