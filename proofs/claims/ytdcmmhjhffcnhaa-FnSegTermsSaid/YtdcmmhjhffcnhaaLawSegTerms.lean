/-
  The law of SegTerms. Of no program.
-/
import Derived.Test.YtdcmmhjhffcnhaaLawSegPosts
import Derived.Test.YtdcmmhjhffcnhaaLawField
set_option linter.unusedVariables false
namespace Go.Fk
open Go

def pickT (n : Str) (e : GEntry) : List Str := if e.Field == n then [e.Term] else []
def termsAt (s : GSeg) (n : Str) : List Str := s.Entries.flatMap (pickT n)
def segTermsS (c : GConf) (s : GSeg) (n : Str) : List Str := if segOk c s then termsAt s n else []
theorem pickT_one (n : Str) (e : GEntry) : (pickT n e).length ≤ 1 := by unfold pickT; split <;> simp
theorem termsAt_len {s : GSeg} {n : Str} : (termsAt s n).length ≤ s.Entries.length := by
  have := flat_le (g := pickT n) (m := 1) s.Entries fun e _ => pickT_one n e
  unfold termsAt; omega
theorem impl_segTerms (F : Nat) (c : GConf) (s : GSeg) (n : Str) (hd : s.Docs.length < 9000000000000000000) (hc : c.Stops.length ≤ 1000000) (hF : 2000 < F) : M.impl_SegTerms F c s n = some (segTermsS c s n) := by
  unfold M.impl_SegTerms segTermsS
  rw [impl_ok F c s hd hc (by omega), Option.bind_some]
  cases ho : segOk c s
  · rfl
  obtain ⟨h1, h2, h3⟩ := seg_is ho
  have hfit : Fits 10000 s.Entries := by rw [h3]; exact (seg_fits h2).le (by omega)
  have hl := hfit.1
  have hlen := termsAt_len (s := s) (n := n)
  rw [Bool.not_true, cond_false, if_pos rfl]
  unfold M.impl_Seg_terms
  rw [fm_forE (pickT n) 10000 (fun i e acc hx hB => ?_) [] (by rw [List.nil_append]; unfold termsAt at hlen; omega), List.nil_append]
  · rfl
  · rw [getI_nat', hx, Option.bind_some]
    unfold pickT at hB ⊢
    revert hB
    rw [if_bif]
    cases e.Field == n
    · intro _; simp
    · intro hB
      simp only [cond_true] at hB ⊢
      rw [catLok (by simp at hB ⊢; omega)]; rfl
theorem spec_segTerms (F : Nat) (c : GConf) (s : GSeg) (n : Str) (hd : DocsFit s.Docs) (hc : ConfFit 100 c) (hF : 300000 < F) : M.spec_SegTerms F c s n = some (segTermsS c s n) := by
  have hok := spec_ok F 100 c s hd hc (by omega) (by omega)
  unfold M.spec_SegTerms segTermsS
  cases ho : segOk c s
  · rw [ho] at hok
    obtain ⟨G, hG⟩ : ∃ G, F = G + 1 := ⟨F - 1, by omega⟩
    conv => lhs; rw [hG]
    rw [whileM, ← hG]
    simp only
    rw [hok]
    have hz : (bif decide ((0 : Int) < (s.Entries.length : Int)) then (some false : Option Bool).bind fun r => some r else some false) = some false := by cases decide ((0 : Int) < (s.Entries.length : Int)) <;> rfl
    rw [hz]; rfl
  · rw [ho] at hok
    obtain ⟨h1, h2, h3⟩ := seg_is ho
    have hfit : Fits 10000 s.Entries := by rw [h3]; exact (seg_fits h2).le (by omega)
    have hl := hfit.1
    have hlen := termsAt_len (s := s) (n := n)
    rw [if_pos rfl]
    rw [fm_while (xs := s.Entries) (pickT n) 10000 F (by omega) (fun i e acc hx hB => ?_) (fun acc => ?_) [] (by rw [List.nil_append]; unfold termsAt at hlen; omega), List.nil_append]
    · rfl
    · have hi := (List.getElem?_eq_some_iff.1 hx).1
      rw [decide_eq_true (by omega), cond_true, hok, Option.bind_some, Option.bind_some, cond_true, getI_nat', hx, Option.bind_some, Option.bind_some, w64_succ' (by omega)]
      unfold pickT at hB ⊢
      revert hB
      rw [if_bif]
      cases e.Field == n
      · intro _; simp
      · intro hB
        simp only [cond_true] at hB ⊢
        rw [catLok (by simp at hB ⊢; omega)]; rfl
    · rw [decide_eq_false (by omega)]; rfl
theorem foTexts_same (F : Nat) (a : List Str) (ha : a.length < 1000000000) (hF : a.length < F) : M.laws_foTexts F a a = some true := by
  unfold M.laws_foTexts
  rw [beq_self_eq_true, Bool.not_true, cond_false, clean0' (n := a.length) F (by omega) (fun i hi => ?_) ?_]
  · rfl
  · rw [decide_eq_false (by omega)]; rfl
  · rw [decide_eq_true (by omega), cond_true, getI_at hi, Option.bind_some, Option.bind_some, w64_succ' (by omega), beq_self_eq_true]
    rfl
theorem foHas_ok (F : Nat) (l : List Str) (x : Str) (hl : l.length < 1000000000) (hF : l.length < F) : M.laws_foHas F l x = some (l.any (· == x)) := by
  unfold M.laws_foHas
  rw [find_while (xs := l) (fun y => y == x) (fun _ => (Sum.inr true : Unit ⊕ Bool)) (e := Sum.inl ()) F hF (fun i y hy => ?_) ?_]
  · cases hf : l.find? fun y => y == x with
    | none =>
      have : l.any (· == x) = false := by
        rw [Bool.eq_false_iff]; intro h
        obtain ⟨y, hy, e⟩ := List.any_eq_true.1 h
        exact List.find?_eq_none.1 hf y hy e
      rw [this]; rfl
    | some y =>
      have : l.any (· == x) = true := List.any_eq_true.2 ⟨y, List.mem_of_find?_eq_some hf, List.find?_some (p := fun y => y == x) hf⟩
      rw [this]; rfl
  · rw [decide_eq_false (by omega)]; rfl
  · have hi := (List.getElem?_eq_some_iff.1 hy).1
    rw [decide_eq_true (by omega), cond_true, getI_nat', hy, Option.bind_some, w64_succ' (by omega), if_bif]
    cases y == x <;> rfl
theorem drawSegTerms_ok (F : Nat) (code : List UInt8) (hF : 200000 < F) : ∃ c s n, M.spec_DrawSegTerms F code = some (c, s, n) ∧ ConfFit 100 c ∧ DocsFit s.Docs := by
  unfold M.spec_DrawSegTerms
  obtain ⟨r, hr, h1, h2⟩ := open_ok F code
  rw [hr, Option.bind_some]
  obtain ⟨c, s, p, hs, ⟨p0, p1⟩, hcd, hsf, _⟩ := anySeg_ok F r ⟨h1, by omega, by omega⟩ hF
  rw [hs, Option.bind_some]
  dsimp only
  obtain ⟨n, q, hn, _, _⟩ := lfield_ok F ⟨r.b_, p⟩ ⟨h1, by simp only; omega, by simp only; omega⟩
  rw [hn, Option.bind_some]
  exact ⟨_, _, _, rfl, hcd.fit, hsf⟩
theorem termsAt_sorted (c : GConf) (docs : List GDoc) (n : Str) : (termsAt (segS c docs) n).Pairwise fun a b => strLess a b = true := by
  refine List.pairwise_flatMap.2 ⟨fun e _ => ?_, (segS_sorted c docs).imp fun {a b} h x hx y hy => ?_⟩
  · unfold pickT; split
    · exact List.pairwise_singleton _ _
    · exact List.Pairwise.nil
  · unfold pickT at hx hy
    split at hx
    · rename_i ha
      split at hy
      · rename_i hb
        rw [List.mem_singleton] at hx hy
        subst hx; subst hy
        have e1 := eq_of_beq ha
        have e2 := eq_of_beq hb
        rcases (ltE_iff a b).1 h with k | ⟨_, k⟩
        · rw [e1, e2, sl_irrefl] at k; cases k
        · exact k
      · cases hy
    · cases hx
theorem law_segTerms (code : List UInt8) : ∃ F, M.laws_FnSegTerms F code = some true := by
  refine ⟨1000000, ?_⟩
  generalize hF : 1000000 = F
  unfold M.laws_FnSegTerms
  cases decide ((1048576 : Int) < (code.length : Int))
  case true => rfl
  obtain ⟨c, s, n, hw, hc, hd⟩ := drawSegTerms_ok F code (by omega)
  have hl := hd.few
  have hst := hc.stops.1
  rw [cond_false, hw, Option.bind_some]
  dsimp only
  have hlen : (segTermsS c s n).length ≤ 10000 := by
    unfold segTermsS
    cases ho : segOk c s
    · exact Nat.zero_le _
    obtain ⟨h1, h2, h3⟩ := seg_is ho
    have hfit : Fits 10000 s.Entries := by rw [h3]; exact (seg_fits h2).le (by omega)
    have := hfit.1
    have := termsAt_len (s := s) (n := n)
    rw [if_pos rfl]; omega
  have hfo := foTexts_same F (segTermsS c s n) (by omega) (by omega)
  rw [impl_segTerms F c s n (by omega) (by omega) (by omega), Option.bind_some, spec_segTerms F c s n hd hc (by omega), Option.bind_some, Option.bind_some, hfo, Option.bind_some, Bool.not_true, cond_false, impl_ok F c s (by omega) (by omega) (by omega), Option.bind_some]
  cases ho : segOk c s
  · rfl
  obtain ⟨h1, h2, h3⟩ := seg_is ho
  have hts : segTermsS c s n = termsAt (segS c s.Docs) n := by unfold segTermsS; rw [ho, if_pos rfl, ← h3]
  rw [hts] at hlen ⊢
  have hsort := termsAt_sorted c s.Docs n
  obtain ⟨L, hL⟩ : ∃ L, L = termsAt (segS c s.Docs) n := ⟨_, rfl⟩
  rw [← hL] at hlen hsort ⊢
  have hmem : ∀ t, t ∈ L ↔ n ∈ namesS s.Docs ∧ t ∈ ftermsS c s.Docs n := fun t => by
    rw [hL, ← entry_in]
    constructor
    · intro h
      obtain ⟨e, he, hx⟩ := List.mem_flatMap.1 h
      unfold pickT at hx
      split at hx
      · rename_i k
        rw [List.mem_singleton] at hx
        have := mem_seg he
        rw [eq_of_beq k, ← hx] at this
        rw [← this]; exact he
      · cases hx
    · intro h
      exact List.mem_flatMap.2 ⟨_, h, by unfold pickT entryS; simp⟩
  have hposts : ∀ t ∈ L, ((((if segOk c s then postsAt s n t else []) : List GPost).length : Int) == 0) = false := fun t ht => by
    rw [ho, if_pos rfl]
    have he := entry_in.2 ((hmem t).1 ht)
    have hp := entry_posts he
    have : postsAt s n t = (entryS c s.Docs n t).Posts := by
      have := postsAt_seg c s.Docs n t
      rw [← h3] at this
      exact this
    rw [this]
    exact beq_eq_false_iff_ne.2 (by omega)
  rw [Bool.not_true, Option.bind_some, cond_false, clean0' (n := L.length) F (by omega) (fun i hi => ?_) ?_]
  · simp only [Option.bind_some, Sum.elim_inl]
    rw [clean0' (n := s.Docs.length) F (by omega) (fun i hi => ?_) ?_]
    · rfl
    · rw [decide_eq_false (by omega)]; rfl
    · have hds := (docs_all h2).2 _ (List.getElem_mem hi)
      have hft := field_text hds n
      have h3' := text_len hft
      have htl := terms_len c (fieldS s.Docs[i] n)
      rw [decide_eq_true (by omega), cond_true, getI_at hi, Option.bind_some, impl_docField, hds, if_pos rfl, Option.bind_some, impl_terms F c _ (by omega) (by omega) (by omega), h1, hft, Bool.true_and, if_pos rfl, Option.bind_some, clean0' (n := (termsS c (fieldS s.Docs[i] n)).length) F (by omega) (fun j hj => ?_) ?_]
      · rw [w64_succ' (by omega)]; rfl
      · rw [decide_eq_false (by omega)]; rfl
      · have hin : L.any (· == (termsS c (fieldS s.Docs[i] n))[j].Text) = true := List.any_eq_true.2 ⟨_, (hmem _).2 (term_in (List.getElem_mem hi) (List.getElem_mem hj)), by simp⟩
        rw [decide_eq_true (by omega), cond_true, getI_at hj, Option.bind_some, foHas_ok F L _ (by omega) (by omega), Option.bind_some, hin, w64_succ' (by omega)]; rfl
  · rw [decide_eq_false (by omega)]; rfl
  · have hp := hposts _ (List.getElem_mem hi)
    rw [decide_eq_true (by omega), cond_true, getI_at hi, Option.bind_some, Option.bind_some, impl_segPosts F c s n _ (by omega) (by omega) (by omega), Option.bind_some, hp, w64_succ' (by omega)]
    rcases Nat.eq_zero_or_pos i with rfl | hpos
    · rfl
    · have hi1 : i - 1 < L.length := by omega
      have hlt := List.pairwise_iff_getElem.1 hsort (i - 1) i hi1 hi (by omega)
      rw [decide_eq_true (by omega), cond_true, w64_pred hpos (by omega), getI_at hi1, Option.bind_some]
      have k1 : strLess L[i] L[i - 1] = false := by
        rw [Bool.eq_false_iff]; intro k
        have := sl_trans hlt k
        rw [sl_irrefl] at this; cases this
      have k2 : (L[i] == L[i - 1]) = false := beq_eq_false_iff_ne.2 fun k => by rw [k, sl_irrefl] at hlt; cases hlt
      rw [k1, k2]; rfl
end Go.Fk
