/-
  What stands is found the same as itself. Of no program.
-/
import Derived.Test.YtdcmmhjhffcnhaaLawDrawSeg
set_option linter.unusedVariables false
namespace Go.Fk
open Go

theorem foDoc_same (F : Nat) (d : GDoc) (hd : DocFit d) (hF : 2000 < F) : M.laws_foDoc F d d = some true := by
  obtain ⟨b1, b2, _, _⟩ := hd
  unfold M.laws_foDoc
  simp only [beq_self_eq_true, Bool.not_true, cond_false, Option.bind_some]
  rw [clean0' (n := d.Fields.length) F (by omega) (fun i hi => ?_) ?_]
  · simp only [Option.bind_some, Sum.elim_inl]
    rw [clean0' (n := d.Nums.length) F (by omega) (fun i hi => ?_) ?_]
    · rfl
    · rw [decide_eq_false (by omega)]; rfl
    · rw [decide_eq_true (by omega), cond_true, getI_at hi, Option.bind_some, Option.bind_some, w64_succ' (by omega)]
      simp
  · rw [decide_eq_false (by omega)]; rfl
  · rw [decide_eq_true (by omega), cond_true, getI_at hi, Option.bind_some, Option.bind_some, w64_succ' (by omega)]
    simp
theorem foDocs_same (F : Nat) (ds : List GDoc) (hd : DocsFit ds) (hF : 2000 < F) : M.laws_foDocs F ds ds = some true := by
  have hl := hd.few
  unfold M.laws_foDocs
  rw [beq_self_eq_true, Bool.not_true, cond_false, clean0' (n := ds.length) F (by omega) (fun i hi => ?_) ?_]
  · rfl
  · rw [decide_eq_false (by omega)]; rfl
  · rw [decide_eq_true (by omega), cond_true, getI_at hi, Option.bind_some, Option.bind_some, foDoc_same F _ (hd.doc _ (List.getElem_mem hi)) hF, w64_succ' (by omega)]
    rfl
theorem foInts_same (F : Nat) (a : List Int) (ha : a.length < 1000000000) (hF : a.length < F) : M.laws_foInts F a a = some true := by
  unfold M.laws_foInts
  rw [beq_self_eq_true, Bool.not_true, cond_false, clean0' (n := a.length) F (by omega) (fun i hi => ?_) ?_]
  · rfl
  · rw [decide_eq_false (by omega)]; rfl
  · rw [decide_eq_true (by omega), cond_true, getI_at hi, Option.bind_some, Option.bind_some, w64_succ' (by omega), beq_self_eq_true]
    rfl
theorem foPosts_same (F : Nat) (a : List GPost) (ha : a.length ≤ 10000 ∧ ∀ p ∈ a, p.At.length ≤ 10000) (hF : 10000 < F) : M.laws_foPosts F a a = some true := by
  have hl := ha.1
  unfold M.laws_foPosts
  rw [beq_self_eq_true, Bool.not_true, cond_false, clean0' (n := a.length) F (by omega) (fun i hi => ?_) ?_]
  · rfl
  · rw [decide_eq_false (by omega)]; rfl
  · have := ha.2 _ (List.getElem_mem hi)
    rw [decide_eq_true (by omega), cond_true, getI_at hi, Option.bind_some, Option.bind_some, beq_self_eq_true, Bool.not_true, cond_false, Option.bind_some, Option.bind_some, foInts_same F _ (by omega) (by omega), w64_succ' (by omega)]
    rfl
theorem foSeg_same (F : Nat) (s : GSeg) (hd : DocsFit s.Docs) (hf : Fits 10000 s.Entries) (hF : 10000 < F) : M.laws_foSeg F s s = some true := by
  have hl := hf.1
  unfold M.laws_foSeg
  rw [foDocs_same F _ hd (by omega), Option.bind_some, Bool.not_true, cond_false, beq_self_eq_true, Bool.not_true, Option.bind_some, cond_false, clean0' (n := s.Entries.length) F (by omega) (fun i hi => ?_) ?_]
  · rfl
  · rw [decide_eq_false (by omega)]; rfl
  · have hp := hf.2 _ (List.getElem_mem hi)
    rw [decide_eq_true (by omega), cond_true, getI_at hi, Option.bind_some, Option.bind_some, beq_self_eq_true, Bool.not_true, cond_false, Option.bind_some, Option.bind_some, beq_self_eq_true, Bool.not_true, cond_false, Option.bind_some, Option.bind_some, foPosts_same F _ hp (by omega), w64_succ' (by omega)]
    rfl
theorem segOf_fits (c : GConf) (docs : List GDoc) : DocsFit (segOf c docs).Docs ∧ Fits 10000 (segOf c docs).Entries := by
  have none_ : DocsFit (GSeg.mk [] []).Docs ∧ Fits 10000 (GSeg.mk [] []).Entries := ⟨⟨Nat.zero_le _, fun d hd => by cases hd⟩, Nat.zero_le _, fun e he => by cases he⟩
  unfold segOf
  cases confS c
  · exact none_
  cases h : docsS docs
  · exact none_
  · exact ⟨docs_fit h, (seg_fits h).le (by omega)⟩
theorem drawSegOf_ok (F : Nat) (code : List UInt8) (hF : 20 ≤ F) : ∃ c docs, M.spec_DrawSegOf F code = some (c, docs) ∧ ConfFit 100 c ∧ DocsFit docs := by
  unfold M.spec_DrawSegOf
  obtain ⟨r, hr, h1, h2⟩ := open_ok F code
  rw [hr, Option.bind_some]
  obtain ⟨c, p, hc, ⟨p0, p1⟩, hcf⟩ := anyConf_ok F r ⟨h1, by omega, by omega⟩
  rw [hc, Option.bind_some]
  dsimp only
  obtain ⟨ds, q, hs, ⟨q0, q1⟩, hd⟩ := anyDocs_ok F ⟨r.b_, p⟩ ⟨h1, by simp only; omega, by simp only; omega⟩ hF
  rw [hs, Option.bind_some]
  exact ⟨_, _, rfl, hcf, hd.fit (by omega)⟩
end Go.Fk
