/-
  Words with a beginning: the law in plain data. Of no program.
-/
import Derived.Test.YtdopcpaapniioaaLawDrawDawg
import Derived.Test.YtdopcpaapniioaaLawGo
import Derived.Test.YtdopcpaapniioaaLawOk
namespace Go.Fk
open Go

theorem drawHead_ok (F : Nat) (code : List UInt8) (hF : 4000000 ≤ F) : ∃ d s, M.spec_DrawDawgHead F code = some (d, s) ∧ DawgFit d ∧ s.length ≤ 10 := by
  unfold M.spec_DrawDawgHead
  obtain ⟨r, hr, h1, h2⟩ := open_ok F code
  rw [hr, Option.bind_some]
  obtain ⟨d, p, hd, p0, p1, hfit⟩ := drawnDawg_ok F r ⟨h1, by omega, by omega⟩ hF
  rw [hd, Option.bind_some]
  dsimp only
  obtain ⟨s, hm, hs⟩ := of_ok F ⟨r.b_, p⟩ ([([] : Str), ([99] : Str), ([99, 97] : Str), ([99, 97, 116] : Str), ([116, 111] : Str), ([120] : Str), ([100, 111, 103, 115] : Str)] : List Str) ⟨h1, by simp only; omega, by simp only; omega⟩ (by simp)
  rw [hs, Option.bind_some]
  exact ⟨_, _, rfl, hfit, (by decide : ∀ s ∈ ([([] : Str), ([99] : Str), ([99, 97] : Str), ([99, 97, 116] : Str), ([116, 111] : Str), ([120] : Str), ([100, 111, 103, 115] : Str)] : List Str), s.length ≤ 10) s hm⟩
theorem specHead_ok (F : Nat) (d : Sts) (s : Str) (hF : d.length + s.length + 4000000 < F) (hl : d.length ≤ 1048576) (hs : s.length ≤ 1048576) (ha : ∀ s ∈ d, s.Arcs.length ≤ 1048576) : M.spec_DawgHead F d s = some (if okS d then (wordsOf d).filter (hasPre s) else []) := by
  unfold M.spec_DawgHead
  rw [specOk_ok F d (by omega) hl ha, Option.bind_some]
  cases hok : okS d with
  | false => rfl
  | true =>
    have hi := (okS_iff d).1 hok
    have h0 := hi.pos
    have hsh := hi.shape
    unfold shapeS at hsh
    rw [Bool.and_eq_true, Bool.and_eq_true] at hsh
    obtain ⟨hd, ha'⟩ := shape_down hsh.1
    have hml : 10000000 ≤ maxLen := by decide
    rw [Bool.not_true, cond_false, spec_go F d _ s hi (by omega) hl hs, Option.bind_some, if_pos rfl, ← hi.words]
    cases hg : goS d (d.length - 1) s with
    | none =>
      have hn := go_none hi.good s (d.length - 1) (by omega) hg
      have : (W d (d.length - 1)).filter (hasPre s) = [] := by
        rw [List.filter_eq_nil_iff]
        intro w hw
        rw [hn w hw]; simp
      rw [this]; rfl
    | some r =>
      obtain ⟨x, n⟩ := r
      obtain ⟨hx, _⟩ := go_some hi.good s _ x n (by omega) hg
      rw [go_filter hi.good (by omega) hg]
      simp only
      rw [decide_eq_false (by omega), cond_false, all_ok d hd (fun i hi => small_at hsh.2.2 hi) ha' x F s (by omega) hx (by omega)]
      rfl
theorem keepP {ws : List Str} {p : Str → Bool} {f : (List Str) × Int → Option (((List Str) × Int) ⊕ (List Str))} (F : Nat) (hF : ws.length < F) (hl : ws.length ≤ 1000)
    (h : ∀ (i : Nat) w (out : List Str), ws[i]? = some w → out.length ≤ 1000 → f (out, (i : Int)) = some (.inl (if p w then out ++ [w] else out, ((i + 1 : Nat) : Int))))
    (h0 : ∀ out, f (out, (ws.length : Int)) = some (.inr out)) : whileM f F (([] : List Str), (0 : Int)) = some (ws.filter p) := by
  obtain ⟨t, ht, hp⟩ := whileM_run (σ := (List Str) × Int) (τ := List Str) (f := f) (Post := fun t => t = ws.filter p) (fun i s => s = ((ws.take i).filter p, (i : Int))) ws.length (fun i s hi hs => by
    subst hs
    have hle : ((ws.take i).filter p).length ≤ 1000 := by
      have h1 := List.length_filter_le p (ws.take i)
      simp only [List.length_take] at h1
      omega
    refine .inl ⟨_, h i ws[i] _ (List.getElem?_eq_getElem hi) hle, ?_⟩
    rw [List.take_succ_eq_append_getElem hi, List.filter_append]
    cases hp : p ws[i] <;> simp [hp]) (fun s hs => by
    subst hs
    exact ⟨_, h0 _, by rw [List.take_length]⟩) ws.length 0 (([] : List Str), (0 : Int)) F (by omega) hF (by simp)
  rw [ht, hp]
theorem law_head (code : List UInt8) : ∃ F, M.laws_FnDawgHead F code = some true := by
  refine ⟨5000000, ?_⟩
  generalize hF : 5000000 = F
  unfold M.laws_FnDawgHead
  cases decide ((1048576 : Int) < (code.length : Int))
  case true => rfl
  obtain ⟨d, s, hw, ⟨hl, ha⟩, hs⟩ := drawHead_ok F code (by omega)
  have ha' : ∀ s ∈ d, s.Arcs.length ≤ 1048576 := fun s hs => by have := ha s hs; omega
  rw [cond_false, hw, Option.bind_some]
  dsimp only
  have hok := ok_ok F d (by omega) (by omega)
  have hfl : ((wordsOf d).filter (hasPre s)).length ≤ (wordsOf d).length := List.length_filter_le _ _
  rw [head_ok F d s (by omega) (by omega), Option.bind_some, specHead_ok F d s (by omega) (by omega) (by omega) ha', Option.bind_some, hok, head_ok F d [] (by omega) (by omega)]
  cases hokd : okS d with
  | false =>
    simp only [Bool.false_eq_true, if_false]
    rw [foTexts_self F [] (by simp; omega) (by simp), Option.bind_some, Bool.not_true, cond_false, Option.bind_some, Option.bind_some, Bool.not_false, cond_true, Option.bind_some]
    rw [foTexts_self F [] (by simp; omega) (by simp)]; rfl
  | true =>
    have hdw := (okS_iff d).1 hokd
    have hfew := hdw.few
    simp only [if_true]
    generalize wordsOf d = ws at *
    have hall : ws.filter (hasPre []) = ws := by
      rw [List.filter_eq_self]
      intro a _
      simp [hasPre]
    have hself := foTexts_self F (ws.filter (hasPre s)) (by omega) (by omega)
    rw [hself, Option.bind_some, Bool.not_true, cond_false, Option.bind_some, Option.bind_some, Bool.not_true, cond_false, hall, Option.bind_some, keepP (p := hasPre s) (ws := ws) F (by omega) (by omega) (fun i w out hw ho => ?_) (fun out => ?_), Option.bind_some, Option.bind_some, hself]
    · rfl
    · have hi := (List.getElem?_eq_some_iff.1 hw).1
      dsimp only
      have hin : (cond (decide ((s.length : Int) ≤ (w.length : Int))) (Option.bind (getI ws (i : Int)) fun x161 => (Option.bind (subS x161 0 (s.length : Int)) fun x171 => (some (x171 == s)))) (some false) : Option Bool) = some (hasPre s w) := by
        unfold hasPre
        by_cases hle : s.length ≤ w.length
        · have hsub : subS w 0 (s.length : Int) = some (w.take s.length) := by
            unfold subS
            rw [if_pos ⟨by omega, by omega, by omega⟩]
            simp
          rw [decide_eq_true (by omega), cond_true, getI_nat', hw, Option.bind_some, hsub, Option.bind_some, decide_eq_true hle, Bool.true_and]
        · rw [decide_eq_false (by omega), cond_false, decide_eq_false hle, Bool.false_and]
      rw [decide_eq_true (by omega), cond_true]
      have hg : getI ws (i : Int) = some w := by rw [getI_nat', hw]
      rw [hg] at hin ⊢
      rw [Option.bind_some, hin, Option.bind_some, w64_succ' (by omega)]
      cases hasPre s w with
      | false => rfl
      | true =>
        rw [cond_true, Option.bind_some, catL_in (by simp only [List.length_singleton]; omega)]
        rfl
    · dsimp only
      rw [decide_eq_false (by omega)]; rfl
end Go.Fk
