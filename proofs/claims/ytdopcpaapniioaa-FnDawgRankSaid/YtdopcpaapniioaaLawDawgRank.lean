/-
  A word is at the rank it has: the law in plain data. Of no program.
-/
import Derived.Test.YtdopcpaapniioaaLawDrawDawg
import Derived.Test.YtdopcpaapniioaaLawGo
import Derived.Test.YtdopcpaapniioaaLawOk
namespace Go.Fk
open Go

theorem drawRank_ok (F : Nat) (code : List UInt8) (hF : 4000000 ≤ F) : ∃ d s, M.spec_DrawDawgRank F code = some (d, s) ∧ DawgFit d ∧ s.length ≤ 10 := by
  unfold M.spec_DrawDawgRank
  obtain ⟨r, hr, h1, h2⟩ := open_ok F code
  rw [hr, Option.bind_some]
  obtain ⟨d, p, hd, p0, p1, hfit⟩ := drawnDawg_ok F r ⟨h1, by omega, by omega⟩ hF
  rw [hd, Option.bind_some]
  dsimp only
  obtain ⟨s, hm, hs⟩ := of_ok F ⟨r.b_, p⟩ ([([99, 97, 116] : Str), ([99, 97, 116, 115] : Str), ([99, 97] : Str), ([100, 111, 103] : Str), ([116, 111, 112, 115] : Str), ([] : Str), ([122, 122] : Str), ([114, 117, 110] : Str)] : List Str) ⟨h1, by simp only; omega, by simp only; omega⟩ (by simp)
  rw [hs, Option.bind_some]
  exact ⟨_, _, rfl, hfit, (by decide : ∀ s ∈ ([([99, 97, 116] : Str), ([99, 97, 116, 115] : Str), ([99, 97] : Str), ([100, 111, 103] : Str), ([116, 111, 112, 115] : Str), ([] : Str), ([122, 122] : Str), ([114, 117, 110] : Str)] : List Str), s.length ≤ 10) s hm⟩
theorem last_rank {ws : List Str} {s : Str} (ha : Asc ws) {f : Int × Int → Option ((Int × Int) ⊕ Int)} (F : Nat) (hF : ws.length < F)
    (h : ∀ (i : Nat) (hi : i < ws.length) (b : Int), f (b, (i : Int)) = some (.inl (if ws[i] == s then ((i : Nat) : Int) else b, ((i + 1 : Nat) : Int)))) (h0 : ∀ b, f (b, (ws.length : Int)) = some (.inr b)) :
    whileM f F ((-1 : Int), (0 : Int)) = some (rankS ws s) := by
  obtain ⟨t, ht, rfl⟩ := whileM_run (f := f) (Post := fun t => t = rankS ws s) (fun i st => st = (if s ∈ ws.take i then rankS ws s else -1, (i : Int))) ws.length (fun i st hi hs => by
    subst hs
    refine .inl ⟨_, h i hi _, ?_⟩
    rw [List.take_succ_eq_append_getElem hi]
    cases he : ws[i] == s with
    | true =>
      have e : ws[i] = s := by simpa using he
      rw [if_pos rfl, if_pos (by rw [List.mem_append]; exact .inr (by rw [e]; simp)), ← e, rankS_at ha hi]
    | false =>
      have e : s ≠ ws[i] := fun q => by rw [q] at he; simp at he
      have : (s ∈ ws.take i ++ [ws[i]]) ↔ s ∈ ws.take i := by
        rw [List.mem_append, List.mem_singleton]
        exact ⟨fun q => q.resolve_right e, .inl⟩
      simp only [this, Bool.false_eq_true, if_false]) (fun st hs => by
    subst hs
    refine ⟨_, h0 _, ?_⟩
    rw [List.take_length]
    split
    · rfl
    · rename_i hn; rw [rankS_none hn]) ws.length 0 ((-1 : Int), (0 : Int)) F (by omega) hF (by simp)
  exact ht
theorem law_rank (code : List UInt8) : ∃ F, M.laws_FnDawgRank F code = some true := by
  refine ⟨5000000, ?_⟩
  generalize hF : 5000000 = F
  unfold M.laws_FnDawgRank
  cases decide ((1048576 : Int) < (code.length : Int))
  case true => rfl
  obtain ⟨d, s, hw, ⟨hl, ha⟩, hs⟩ := drawRank_ok F code (by omega)
  have ha' : ∀ s ∈ d, s.Arcs.length ≤ 1048576 := fun s hs => by have := ha s hs; omega
  rw [cond_false, hw, Option.bind_some]
  dsimp only
  have hok := ok_ok F d (by omega) (by omega)
  have hsok := specDawgOk_ok F d (by omega) (by omega) ha'
  rw [rank_ok F d s (by omega) (by omega), Option.bind_some, specRank_ok F d s (by omega) (by omega) (by omega) ha', Option.bind_some, beq_self_eq_true, Bool.not_true, cond_false, hok, Option.bind_some, hsok, Option.bind_some, beq_self_eq_true, Bool.not_true, cond_false, Option.bind_some, Option.bind_some, Option.bind_some, beq_self_eq_true, cond_true, Option.bind_some, Option.bind_some, beq_self_eq_true,
    head_ok F d _ (by omega) (by omega)]
  cases hokd : okS d with
  | false => rfl
  | true =>
    have hdw := (okS_iff d).1 hokd
    have hasc := hdw.up.asc
    have hfew := hdw.few
    have hat := fun r => implAt_ok F d r (by omega) (by omega)
    rw [hokd] at hat
    simp only [if_true] at hat
    simp only [if_true]
    generalize wordsOf d = ws at *
    have hall : ws.filter (hasPre []) = ws := by
      rw [List.filter_eq_self]
      intro a _
      simp [hasPre]
    rw [Bool.not_true, cond_false, hall, Option.bind_some, last_rank hasc F (by omega) (s := s) (fun i hi b => ?_) (fun b => ?_), Option.bind_some, Option.bind_some, beq_self_eq_true, cond_true, hat]
    · by_cases hm : s ∈ ws
      · obtain ⟨i, hi, rfl⟩ := List.mem_iff_getElem.1 hm
        rw [rankS_at hasc hi, decide_eq_false (by omega), cond_false, Option.bind_some]
        have : atS ws (i : Int) = ws[i] := by
          unfold atS
          rw [if_pos ⟨by omega, by omega⟩]
          simp [List.getElem?_eq_getElem hi]
        rw [this, beq_self_eq_true]
      · rw [rankS_none hm]; rfl
    · dsimp only
      rw [decide_eq_true (by omega), cond_true, getI_at hi, Option.bind_some, w64_succ' (by omega)]
      cases ws[i] == s <;> rfl
    · dsimp only
      rw [decide_eq_false (by omega)]; rfl
end Go.Fk
