/-
  A new index has no document: the law, on the models. Of no program's steps.
-/
import Derived.Test.YtmkhlppjphodfaaGreatDoorLawDrawSeg
import Derived.Test.YtmkhlppjphodfaaGreatDoorLawHits
namespace Go.Fk
open Go

theorem foTexts_refl (F : Nat) (a : List Str) (ha : a.length < 1000000000) (hF : a.length < F) : M.laws_foTexts F a a = some true := by
  unfold M.laws_foTexts
  rw [beq_self_eq_true, Bool.not_true, cond_false, clean0' (n := a.length) F (by omega) (fun i hi => ?_) ?_]
  · rfl
  · rw [decide_eq_false (by omega)]; rfl
  · rw [decide_eq_true (by omega), cond_true, getI_at hi, Option.bind_some, Option.bind_some, w64_succ' (by omega), beq_self_eq_true]
    rfl
theorem foConf_same (F : Nat) (c : GConf) (hc : ConfFit 100 c) (hF : 1000 < F) : M.laws_foConf F c c = some true := by
  have h1 := hc.stops.1
  have h2 := hc.syns.1
  unfold M.laws_foConf
  rw [foTexts_refl F _ (by omega) (by omega), Option.bind_some, Bool.not_true, cond_false, beq_self_eq_true, Bool.not_true, Option.bind_some, cond_false, clean0' (n := c.Syns.length) F (by omega) (fun i hi => ?_) ?_]
  · rfl
  · rw [decide_eq_false (by omega)]; rfl
  · have := (hc.syns.2 _ (List.getElem_mem hi)).1
    rw [decide_eq_true (by omega), cond_true, getI_at hi, Option.bind_some, Option.bind_some, beq_self_eq_true, Bool.not_true, cond_false, Option.bind_some, Option.bind_some, foTexts_refl F _ (by omega) (by omega), w64_succ' (by omega)]
    rfl
theorem impl_cloneConf (F : Nat) (c : GConf) (hc : ConfFit 100 c) : M.impl_cloneConf F c = some c := by
  have h1 := hc.stops.1
  have h2 := hc.syns.1
  unfold M.impl_cloneConf
  rw [catLok (by simp only [List.length_nil]; omega), List.nil_append, Option.bind_some]
  obtain ⟨t, ht, hp⟩ := forE_run' (σ := GConf) (f := fun (i65 : Nat) (s61 : GConf) => (Option.bind (getI c.Syns ((i65 : Nat) : Int)) fun x87 => (Option.bind (catL 16 ([] : List Str) x87.From) fun x115 => (Option.bind (catL 40 s61.Syns ([(GSyn.mk x115 x87.To)] : List GSyn)) fun x133 => (some (GConf.mk s61.Stops x133))))))
    (fun i s => s = ⟨c.Stops, c.Syns.take i⟩) c.Syns.length (fun i s hi hs => by
      subst hs
      have h3 := (hc.syns.2 _ (List.getElem_mem hi)).1
      have h4 := List.length_take_le i c.Syns
      refine ⟨_, ?_, rfl⟩
      rw [getI_at hi, Option.bind_some, catLok (by simp only [List.length_nil]; omega), Option.bind_some, catLok (by simp only [List.length_cons, List.length_nil]; omega), Option.bind_some, List.take_succ_eq_append_getElem hi]
      rfl) c.Syns.length 0 ⟨c.Stops, []⟩ (by omega) (by rw [List.take_zero])
  rw [ht, hp, List.take_length]
  rfl
theorem spec_cloneConf (F : Nat) (c : GConf) (hc : ConfFit 100 c) (hF : 1000 < F) : M.spec_l18CopyConf F c = some c := by
  have h1 := hc.stops.1
  have h2 := hc.syns.1
  unfold M.spec_l18CopyConf
  rw [catLok (by simp only [List.length_nil]; omega), List.nil_append, Option.bind_some]
  obtain ⟨t, ht, hp⟩ := whileM_run (σ := Int × GConf) (τ := GConf) (f := fun (s55 : Int × GConf) => (cond (decide (s55.1 < (c.Syns.length : Int))) (Option.bind (getI c.Syns s55.1) fun x84 => (Option.bind (getI c.Syns s55.1) fun x98 => (Option.bind (catL 16 ([] : List Str) x84.From) fun x118 => (Option.bind (catL 40 s55.2.Syns ([(GSyn.mk x118 x98.To)] : List GSyn)) fun x136 => (some (.inl ((w64 (s55.1 + (1 : Int))), (GConf.mk s55.2.Stops x136)))))))) (some (.inr s55.2))))
    (Post := fun t => t = c) (fun i s => s = ((i : Int), ⟨c.Stops, c.Syns.take i⟩)) c.Syns.length (fun i s hi hs => .inl (by
      subst hs
      have h3 := (hc.syns.2 _ (List.getElem_mem hi)).1
      have h4 := List.length_take_le i c.Syns
      refine ⟨_, ?_, rfl⟩
      dsimp only
      rw [decide_eq_true (by omega), cond_true, getI_at hi, Option.bind_some, Option.bind_some, catLok (by simp only [List.length_nil]; omega), Option.bind_some, catLok (by simp only [List.length_cons, List.length_nil]; omega), Option.bind_some, List.take_succ_eq_append_getElem hi, w64_succ' (by omega)]
      rfl)) (fun s hs => by
      subst hs
      refine ⟨_, ?_, rfl⟩
      dsimp only
      rw [decide_eq_false (by omega), cond_false, List.take_length]) c.Syns.length 0 ((0 : Int), ⟨c.Stops, []⟩) F (by omega) (by omega) (by rw [List.take_zero]; rfl)
  rw [ht, hp]
  rfl
theorem queryAll (F : Nat) (hF : 10 < F) : M.impl_QueryOk F ⟨1, [], [], 0, 0, []⟩ = some true := by
  obtain ⟨F, rfl⟩ : ∃ G, F = G + 1 := ⟨F - 1, by omega⟩
  rfl
theorem live_nil (F : Nat) : M.impl_allAlive F [] = some [] := by
  unfold M.impl_allAlive
  show (Option.bind (sortO (fun a b => M.impl_allAlive_1 F a b) []) fun x => some x) = _
  simp [sortO, sortOk]
theorem index_nil (F : Nat) (c : GConf) (hc : ConfFit 100 c) (ho : confS c = true) (hF : 1000 < F) : M.impl_IndexOk F ⟨c, []⟩ = some true := by
  have h1 := hc.stops.1
  unfold M.impl_IndexOk
  rw [impl_conf F c (by omega) (by omega), Option.bind_some, ho, Bool.not_true, cond_false]
  show (Option.bind (M.impl_allAlive F []) fun r100 => (Option.bind (M.impl_DocsOk F r100) fun r112 => (some r112))) = _
  rw [live_nil, Option.bind_some, impl_docs F [] (by simp)]
  rfl
theorem law_indexNew (code : List UInt8) : ∃ F, M.laws_FnIndexNew F code = some true := by
  refine ⟨1000000, ?_⟩
  generalize hF : 1000000 = F
  unfold M.laws_FnIndexNew
  cases decide ((1048576 : Int) < (code.length : Int))
  case true => rfl
  rw [cond_false]
  obtain ⟨r, hr, hr1, hr2⟩ := open_ok F code
  obtain ⟨c, p, hc, _, hf⟩ := anyConf_ok F r ⟨hr1, by omega, by omega⟩
  have hd : M.spec_DrawIndexNew F code = some c := by unfold M.spec_DrawIndexNew; rw [hr, Option.bind_some, hc]; rfl
  have h1 := hf.stops.1
  have hi := impl_conf F c (by omega) (by omega)
  have hs := spec_conf F 100 c hf (by omega) (by omega)
  have hz : ConfFit 100 ⟨[], []⟩ := ⟨⟨Nat.zero_le _, fun _ h => by cases h⟩, Nat.zero_le _, fun _ h => by cases h⟩
  have foI : ∀ x, ConfFit 100 x → M.laws_foIndex F ⟨x, []⟩ ⟨x, []⟩ = some true := fun x hx => by
    unfold M.laws_foIndex
    rw [foConf_same F x hx (by omega)]
    obtain ⟨F, rfl⟩ : ∃ G, F = G + 1 := ⟨F - 1, by omega⟩
    rfl
  rw [hd, Option.bind_some]
  unfold M.impl_IndexNew M.spec_IndexNew
  rw [hi, Option.bind_some, hs, Option.bind_some]
  cases ho : confS c
  · rw [Bool.not_false, cond_true, cond_true, Option.bind_some, Option.bind_some]
    simp only [foI _ hz, Option.bind_some, Bool.not_true, cond_false, Bool.not_false, cond_true]
  · rw [Bool.not_true, cond_false, cond_false, impl_cloneConf F c hf, spec_cloneConf F c hf (by omega)]
    simp only [foI _ hf, Option.bind_some, Bool.not_true, cond_false, cond_true, index_nil F c hf ho (by omega)]
    have hdocs : M.impl_IndexDocs F ⟨c, []⟩ = some [] := by
      unfold M.impl_IndexDocs
      rw [index_nil F c hf ho (by omega), Option.bind_some, Bool.not_true, cond_false, live_nil, Option.bind_some]
      rfl
    have htop : M.impl_IndexTop F ⟨c, []⟩ ⟨1, [], [], 0, 0, []⟩ 16 = some [] := by
      unfold M.impl_IndexTop
      rw [index_nil F c hf ho (by omega), Option.bind_some, Bool.not_true, cond_false, queryAll F (by omega), Option.bind_some, Bool.not_true, cond_false, withinS, Option.bind_some]
      show (Option.bind (M.impl_allAlive F []) fun r85 => (Option.bind (M.impl_SegOf F c r85) fun r97 => (Option.bind (M.impl_TopOf F c r97 ⟨1, [], [], 0, 0, []⟩ 16) fun r113 => (some r113)))) = _
      rw [live_nil, Option.bind_some, impl_segOf F c [] (by simp) (by omega) (by omega), Option.bind_some]
      have hdn : (segOf c []).Docs = [] := by
        unfold segOf
        rw [ho]
        rfl
      unfold M.impl_TopOf
      rw [withinS, Option.bind_some]
      have hsc : M.impl_scores F c (segOf c []) ⟨1, [], [], 0, 0, []⟩ = some [] := by
        unfold M.impl_scores
        rw [impl_ok F c (segOf c []) (by rw [hdn]; simp) (by omega) (by omega), Option.bind_some, queryAll F (by omega), hdn]
        cases segOk c (segOf c [])
        · rfl
        · rfl
      show (Option.bind (Option.bind (M.impl_scores F c (segOf c []) ⟨1, [], [], 0, 0, []⟩) fun r => _) fun r => _) = _
      have hfi : M.impl_firstHits F [] 16 = some [] := first_ok F [] 16 List.nodup_nil (by simp)
      rw [hsc, Option.bind_some, hfi]
      rfl
    rw [hdocs, Option.bind_some, htop, foConf_same F c hf (by omega)]
    rfl
end Go.Fk
