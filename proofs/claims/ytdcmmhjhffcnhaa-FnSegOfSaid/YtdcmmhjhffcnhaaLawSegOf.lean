/-
  The law of SegOf. Of no program.
-/
import Derived.Test.YtdcmmhjhffcnhaaLawFoSeg
set_option linter.unusedVariables false
namespace Go.Fk
open Go

theorem entry_posts {c : GConf} {docs : List GDoc} {e : GEntry} (he : e ∈ (segS c docs).Entries) : 0 < e.Posts.length := by
  unfold segS at he
  obtain ⟨n, _, hm⟩ := List.mem_flatMap.1 he
  obtain ⟨t, ht, rfl⟩ := List.mem_map.1 hm
  obtain ⟨d, hd, x, hx, rfl⟩ := mem_fterms.1 ht
  have hmem : x.At ∈ postS c d n x.Text := List.mem_flatMap.2 ⟨x, hx, by simp⟩
  have hpos : 0 < (postS c d n x.Text).length := List.length_pos_of_mem hmem
  have : (⟨d.Id, postS c d n x.Text⟩ : GPost) ∈ (entryS c docs n x.Text).Posts := List.mem_flatMap.2 ⟨d, hd, by unfold docPost; rw [decide_eq_true hpos, if_pos rfl]; simp⟩
  exact List.length_pos_of_mem this
theorem law_segOf (code : List UInt8) : ∃ F, M.laws_FnSegOf F code = some true := by
  refine ⟨1000000, ?_⟩
  generalize hF : 1000000 = F
  unfold M.laws_FnSegOf
  cases decide ((1048576 : Int) < (code.length : Int))
  case true => rfl
  obtain ⟨c, docs, hw, hc, hd⟩ := drawSegOf_ok F code (by omega)
  have hl := hd.few
  have hst := hc.stops.1
  rw [cond_false, hw, Option.bind_some]
  dsimp only
  obtain ⟨f1, f2⟩ := segOf_fits c docs
  have hfo := foSeg_same F (segOf c docs) f1 f2 (by omega)
  rw [impl_segOf F c docs (by omega) (by omega) (by omega), Option.bind_some, spec_segOf F 100 c docs hd hc (by omega) (by omega), Option.bind_some, Option.bind_some, hfo, Option.bind_some, Bool.not_true, cond_false, impl_conf F c (by omega) (by omega), Option.bind_some, impl_docs F docs (by omega)]
  cases hcs : confS c
  · rfl
  cases hds : docsS docs
  · rfl
  have e : segOf c docs = segS c docs := by unfold segOf; rw [hcs, hds]; rfl
  rw [e] at f2 ⊢
  have hsort := segS_sorted c docs
  have hln := f2.1
  rw [Bool.not_true, cond_false, Option.bind_some, Option.bind_some, Bool.not_true, cond_false]
  rw [clean0' (n := (segS c docs).Entries.length) F (by omega) (fun i hi => ?_) ?_]
  · rw [Option.bind_some]
    simp only [Option.bind_some, Sum.elim_inl]
    rw [impl_ok F c _ (by show docs.length < _; omega) (by omega) (by omega), Option.bind_some, seg_self hcs hds, cond_true]
    show Option.bind (M.laws_foDocs F docs docs) _ = _
    rw [foDocs_same F docs hd (by omega)]; rfl
  · rw [decide_eq_false (by omega)]; rfl
  · have hp := entry_posts (List.getElem_mem hi)
    have h0 : (((segS c docs).Entries[i].Posts.length : Int) == 0) = false := beq_eq_false_iff_ne.2 (by omega)
    rw [decide_eq_true (by omega), cond_true, getI_at hi, Option.bind_some, h0, cond_false, w64_succ' (by omega)]
    rcases Nat.eq_zero_or_pos i with rfl | hpos
    · rfl
    · have hi1 : i - 1 < (segS c docs).Entries.length := by omega
      have hlt : ltE (segS c docs).Entries[i - 1] (segS c docs).Entries[i] = true := List.pairwise_iff_getElem.1 hsort (i - 1) i hi1 hi (by omega)
      rw [decide_eq_true (by omega), cond_true, w64_pred hpos (by omega), getI_at hi1, Option.bind_some, Option.bind_some, Option.bind_some]
      generalize (segS c docs).Entries[i - 1] = a at hlt ⊢
      generalize (segS c docs).Entries[i] = b at hlt ⊢
      rcases (ltE_iff a b).1 hlt with h | ⟨h, h'⟩
      · have h1 : strLess b.Field a.Field = false := by
          rw [Bool.eq_false_iff]; intro k
          have := sl_trans h k
          rw [sl_irrefl] at this; cases this
        have h2 : (b.Field == a.Field) = false := beq_eq_false_iff_ne.2 fun k => by rw [k, sl_irrefl] at h; cases h
        rw [h1, cond_false, h2, cond_false]; rfl
      · have h1 : strLess b.Field a.Field = false := by rw [h, sl_irrefl]
        have h2 : (b.Field == a.Field) = true := beq_iff_eq.2 h.symm
        have h3 : strLess b.Term a.Term = false := by
          rw [Bool.eq_false_iff]; intro k
          have := sl_trans h' k
          rw [sl_irrefl] at this; cases this
        have h4 : (b.Term == a.Term) = false := beq_eq_false_iff_ne.2 fun k => by rw [k, sl_irrefl] at h'; cases h'
        rw [h1, cond_false, h2, cond_true, h3, h4]; rfl
end Go.Fk
