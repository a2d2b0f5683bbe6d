/-
  Ranks and beginnings over an automaton's words. Of no program.
-/
import Derived.Test.YtdopcpaapniioaaLawVisit
namespace Go.Fk
open Go

theorem forE_run {σ : Type} {f : Nat → σ → Option σ} (Inv : Nat → σ → Prop) (n : Nat)
    (step : ∀ i s, i < n → Inv i s → ∃ s', f i s = some s' ∧ Inv (i + 1) s') : ∀ (k i : Nat) (s : σ), i + k = n → Inv i s → ∃ t, forE f k i s = some t ∧ Inv n t
  | 0, i, s, e, hi => ⟨s, rfl, by rw [← e]; exact hi⟩
  | k + 1, i, s, e, hi => by
    obtain ⟨s', h1, h2⟩ := step i s (by omega) hi
    obtain ⟨t, h3, h4⟩ := forE_run Inv n step k (i + 1) s' (by omega) h2
    exact ⟨t, by rw [forE, h1]; exact h3, h4⟩
theorem foTexts_ok (F : Nat) (x y : List Str) (hF : x.length < F) (hl : x.length < 9000000000000000000) : M.laws_foTexts F x y = some (eqBy (fun a b => a == b) x y) := by
  unfold M.laws_foTexts
  by_cases hlen : x.length = y.length
  · rw [show ((x.length : Int) == (y.length : Int)) = true by rw [beq_iff_eq]; omega, Bool.not_true, cond_false]
    rw [eq_while (t := fun a b => a == b) hlen (fun i a b ha hb => ?_) ?_ F hF]
    · cases eqBy (fun a b => a == b) x y <;> rfl
    · rw [decide_eq_false (by omega)]; rfl
    · have hi := (List.getElem?_eq_some_iff.1 ha).1
      rw [decide_eq_true (by omega), cond_true, getI_n, getI_n, ha, hb, Option.bind_some, Option.bind_some, w64_succ' (by omega)]
      cases a == b <;> rfl
  · rw [show ((x.length : Int) == (y.length : Int)) = false by rw [beq_eq_false_iff_ne]; omega, eqBy_len hlen]; rfl
theorem foTexts_self (F : Nat) (x : List Str) (hF : x.length < F) (hl : x.length < 9000000000000000000) : M.laws_foTexts F x x = some true := by
  rw [foTexts_ok F x x hF hl, (eqBy_iff (fun a b => by simp) x x).2 rfl]
def hasPre (s x : Str) : Bool := decide (s.length ≤ x.length) && x.take s.length == s
theorem hasPrefix_ok (F : Nat) (x s : Str) : M.strings_HasPrefix F x s = some (hasPre s x) := by
  unfold M.strings_HasPrefix M.stringslite_HasPrefix hasPre
  by_cases h : s.length ≤ x.length
  · rw [decide_eq_true (show (s.length : Int) ≤ (x.length : Int) by omega), cond_true, subS, if_pos ⟨by omega, by omega, by omega⟩, decide_eq_true h]
    simp
  · rw [decide_eq_false (show ¬ (s.length : Int) ≤ (x.length : Int) by omega), decide_eq_false h]; rfl
theorem IsDawg.few {d : Sts} {ws : List Str} (h : IsDawg d ws) : ws.length ≤ 40 := h.up.few
theorem head_ok (F : Nat) (d : Sts) (s : Str) (hF : d.length + 1000 < F) (hl : d.length < 9000000000000000000) : M.impl_DawgHead F d s = some (if okS d then (wordsOf d).filter (hasPre s) else []) := by
  unfold M.impl_DawgHead
  rw [wordsIn_ok F d hF hl, Option.bind_some]
  cases hok : okS d with
  | false => rfl
  | true =>
    have hf := ((okS_iff d).1 hok).few
    simp only [if_true]
    generalize wordsOf d = ws at *
    have key := fun f step => forE_run (σ := List Str) (f := f) (fun i s' => s' = (ws.take i).filter (hasPre s)) ws.length step ws.length 0 [] (by omega) (by simp)
    generalize hg : (fun (i39 : Nat) (s35 : (List Str)) => _ : Nat → List Str → Option (List Str)) = f
    obtain ⟨t, ht, hp⟩ := key f (fun i s' hi hs => by
      subst hg hs
      dsimp only
      rw [getI_at hi, Option.bind_some, hasPrefix_ok, Option.bind_some, List.take_succ_eq_append_getElem hi, List.filter_append]
      have hle : ((ws.take i).filter (hasPre s)).length ≤ 40 := by
        have h1 := List.length_filter_le (hasPre s) (ws.take i)
        simp only [List.length_take] at h1
        omega
      cases hpre : hasPre s ws[i] with
      | false => exact ⟨_, rfl, by simp [hpre]⟩
      | true =>
        rw [cond_true, catL_ok (by simp only [List.length_singleton]; omega)]
        exact ⟨_, rfl, by simp [hpre]⟩)
    rw [ht, hp, List.take_length]
    rfl
def rankS (ws : List Str) (s : Str) : Int := match ws.findIdx? (fun x => s == x) with | some k => (k : Int) | none => -1
theorem index_ok (F : Nat) (ws : List Str) (s : Str) : M.slices_Index_string F ws s = some (rankS ws s) := by
  unfold M.slices_Index_string rankS
  have key := fun f h => find_from (p := fun x => s == x) (g := fun i => (i : Int)) (xs := ws) (f := f) h ws.length 0 (by omega)
  rw [key _ (fun i x hx => ?_), List.drop_zero]
  · cases ws.findIdx? (fun x => s == x) with
    | some k => simp only [Nat.zero_add]; rfl
    | none => rfl
  · rw [getI_n, hx, Option.bind_some]
    cases s == x <;> rfl
theorem rank_ok (F : Nat) (d : Sts) (s : Str) (hF : d.length + 1000 < F) (hl : d.length < 9000000000000000000) : M.impl_DawgRank F d s = some (if okS d then rankS (wordsOf d) s else -1) := by
  unfold M.impl_DawgRank
  rw [wordsIn_ok F d hF hl, Option.bind_some, index_ok]
  cases okS d <;> rfl
theorem rankS_at {ws : List Str} (ha : Asc ws) {i : Nat} (hi : i < ws.length) : rankS ws ws[i] = (i : Int) := by
  have : ws.findIdx? (fun x => ws[i] == x) = some i := by
    rw [List.findIdx?_eq_some_iff_getElem]
    refine ⟨hi, by simp, fun j hj => ?_⟩
    have h1 := List.pairwise_iff_getElem.1 ha j i (by omega) hi hj
    intro h
    simp only [beq_iff_eq] at h
    rw [h, sless_irrefl] at h1
    cases h1
  unfold rankS
  rw [this]
theorem rankS_none {ws : List Str} {s : Str} (h : s ∉ ws) : rankS ws s = -1 := by
  have : ws.findIdx? (fun x => s == x) = none := by
    rw [List.findIdx?_eq_none_iff]
    intro x hx
    rw [beq_eq_false_iff_ne]
    rintro rfl
    exact h hx
  unfold rankS
  rw [this]
end Go.Fk
