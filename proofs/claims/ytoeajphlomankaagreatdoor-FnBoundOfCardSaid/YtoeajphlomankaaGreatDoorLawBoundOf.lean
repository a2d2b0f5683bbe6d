/-
  No document has more points than its block: the law holds for every code.
-/
import Derived.Test.YtoeajphlomankaaGreatDoorLawPts
set_option linter.unusedVariables false
set_option maxRecDepth 100000
namespace Go.Fk
open Go

theorem impl_boundOf (F : Nat) (c : GConf) (s : GSeg) (n t : Str) (hd : DocsFit s.Docs) (hc : ConfFit 100 c) (hF : 1000000000 < F) : M.impl_BoundOf F c s n t = some (boundsS c s n t) := by
  have h1 := hd.few
  have h2 := hc.stops
  unfold M.impl_BoundOf boundsS
  rw [impl_ok F c s (by omega) (by omega) (by omega), Option.bind_some]
  cases ho : segOk c s with
  | false => rfl
  | true => rw [Bool.not_true, cond_false, impl_bounds F c s n t ho hF]; rfl
theorem spec_boundOf (F : Nat) (c : GConf) (s : GSeg) (n t : Str) (hd : DocsFit s.Docs) (hc : ConfFit 100 c) (hF : 1000000000 < F) : M.spec_BoundOf F c s n t = some (boundsS c s n t) := by
  unfold M.spec_BoundOf boundsS
  rw [spec_ok F 100 c s hd hc (by omega) (by omega), Option.bind_some]
  cases ho : segOk c s with
  | false => rfl
  | true => rw [Bool.not_true, cond_false, spec_blocks F c s n t ho hF]; rfl
theorem foBlocks_self (F : Nat) (l : List GBlock) (hl : l.length ≤ 100000) (hF : 100000 < F) : M.laws_foBlocks F l l = some true := by
  unfold M.laws_foBlocks
  rw [beq_self_eq_true, Bool.not_true, cond_false, clean0' (n := l.length) F (by omega) (fun i hi => ?_) ?_]
  · rfl
  · rw [decide_eq_false (by omega)]; rfl
  · rw [decide_eq_true (by omega), cond_true, getI_at hi, Option.bind_some, Option.bind_some, beq_self_eq_true, beq_self_eq_true, w64_succ' (by omega)]
    rfl
theorem fo_at (F : Nat) (s : GSeg) (n t : Str) (id : Int) (hp : (postsAt s n t).length ≤ 10000) (hF : 20000 < F) : M.laws_foAt F (postsAt s n t) id = some (atS s n t id) := by
  unfold M.laws_foAt atS
  rw [find_while (xs := postsAt s n t) (fun p => p.Doc == id) (fun p => (.inr p.At : Unit ⊕ List Int)) (e := .inl ()) F (by omega) (fun i x hx => ?_) ?_]
  · cases (postsAt s n t).find? (fun p => p.Doc == id) <;> rfl
  · rw [decide_eq_false (by omega)]; rfl
  · have hi := (List.getElem?_eq_some_iff.1 hx).1
    rw [decide_eq_true (by omega), cond_true, getI_nat', hx, Option.bind_some, Option.bind_some, w64_succ' (by omega)]
    cases x.Doc == id <;> rfl
theorem fo_points (F : Nat) (c : GConf) (s : GSeg) (n t : Str) (id : Int) (ho : segOk c s = true) (hdl : DocsFit s.Docs) (hc : ConfFit 100 c) (hF : 1000000000 < F) : M.laws_foPoints F c s n t id = some (pointsS c s n t id : Int) := by
  obtain ⟨h1, h2, h3⟩ := seg_is ho
  have hp := (postsAt_fits ho n t).1
  have hfew := hdl.few
  have hst := hc.stops
  have hlong : ∀ id, M.impl_SegLong F c s n id = some (fieldLen c s.Docs n id : Int) := fun id => by
    rw [impl_segLong F c s n id (by omega) (by omega) (by omega)]
    unfold longS
    rw [if_pos ho]
  unfold M.laws_foPoints pointsS
  rw [impl_segPosts F c s n t (by omega) (by omega) (by omega), if_pos ho, Option.bind_some, fo_at F s n t id hp (by omega), Option.bind_some]
  by_cases h0 : (atS s n t id).length = 0
  · rw [if_pos h0, beq_iff_eq.2 (by omega)]; rfl
  · rw [if_neg h0, beq_eq_false_iff_ne.2 (by omega), cond_false]
    obtain ⟨r, hr, he⟩ := whileM_run (σ := Int × Int) (τ := Int) (f := (fun (s63 : Int × Int) => (cond (decide (s63.2 < (s.Docs.length : Int))) (Option.bind (getI s.Docs s63.2) fun x81 => (Option.bind (M.impl_SegLong F c s n x81.Id) fun r99 => (some (.inl ((w64 (s63.1 + r99)), (w64 (s63.2 + (1 : Int)))))))) (some (.inr s63.1)))))
      (Post := fun a => a = ((totN c s.Docs n : Nat) : Int)) (fun i st => st = (((((s.Docs.take i).map fun d => (termsS c (fieldS d n)).length).sum : Nat) : Int), (i : Int))) s.Docs.length (fun i st hi hst => by
        subst hst
        have hb := take_sum (c := c) h2 n (i + 1)
        refine .inl ⟨_, ?_, rfl⟩
        dsimp only
        rw [decide_eq_true (by omega), cond_true, getI_at hi, Option.bind_some, hlong, Option.bind_some, w64_succ' (by omega), len_id h2 n (List.getElem_mem hi)]
        rw [List.take_succ_eq_append_getElem hi, List.map_append, List.sum_append] at hb ⊢
        simp only [List.map_cons, List.map_nil, List.sum_cons, List.sum_nil, Nat.add_zero] at hb ⊢
        rw [w64_sum (by omega)]) (fun st hst => by
        subst hst
        refine ⟨_, by dsimp only; rw [decide_eq_false (by omega)]; rfl, ?_⟩
        rw [List.take_length]; rfl) s.Docs.length 0 ((0 : Int), (0 : Int)) F (by omega) (by omega) (by simp)
    rw [hr, Option.bind_some, Option.bind_some, he, hlong, Option.bind_some]
    have hs : ScoreOk (atS s n t id).length (fieldLen c s.Docs n id) (totN c s.Docs n) s.Docs.length (postsAt s n t).length := by
      have := score_ok (c := c) h2 (n := n) (t := t) (id := id)
      rw [← h3] at this
      exact this h0
    have hu := up_le hs
    have hdn := down_le hs
    rw [impl_term F _ _ _ _ _ hs hF, Option.bind_some, Option.bind_some]
    dsimp only
    rw [impl_milli F _ _ (by omega) ⟨hdn.1, by omega⟩ hF]; rfl
/-! ## the most of each block -/
def bestL (ps : List (Int × Nat)) : List Int := (blk ps).map (·.Most)
theorem best_step {ps : List (Int × Nat)} {i : Nat} (hi : i < ps.length) : ∃ (A C : List Int) (y : Int), bestL (ps.take i) ++ List.replicate ((blk ps).length - (blk (ps.take i)).length) 0 = A ++ y :: C ∧ A.length = i / 2 ∧ 0 ≤ y ∧
    bestL (ps.take (i + 1)) ++ List.replicate ((blk ps).length - (blk (ps.take (i + 1))).length) 0 = A ++ max y (ps[i].2 : Int) :: C := by
  obtain ⟨B, y, h1, h2, h3, h4⟩ := blk_step hi
  have htl : (ps.take i).length = i := by rw [List.length_take]; omega
  have htl2 : (ps.take (i + 1)).length = i + 1 := by rw [List.length_take]; omega
  have hb := blk_len ps
  have hb1 := blk_len (ps.take i)
  have hb2 := blk_len (ps.take (i + 1))
  rw [htl] at hb1
  rw [htl2] at hb2
  refine ⟨B.map (·.Most), List.replicate ((blk ps).length - (i / 2 + 1)) 0, y.Most, ?_, by rw [List.length_map]; exact h4, h3, ?_⟩
  · by_cases h : i % 2 = 0
    · rw [if_pos h] at h1
      have hl := congrArg List.length h1
      have e := List.append_inj' h1 rfl
      obtain ⟨e1, e2⟩ := e
      have e3 : y = ⟨0, 0⟩ := by injection e2 with q; exact q.symm
      unfold bestL
      rw [e1, e3]
      have : (blk ps).length - B.length = ((blk ps).length - (i / 2 + 1)) + 1 := by omega
      rw [this, List.replicate_succ]
    · rw [if_neg h] at h1
      unfold bestL
      rw [h1, List.map_append, List.append_assoc, List.length_append, List.length_singleton, h4]; rfl
  · unfold bestL
    have : (blk (ps.take (i + 1))).length = i / 2 + 1 := by omega
    rw [this, h2, List.map_append, List.append_assoc]; rfl
theorem ps_up {c : GConf} {s : GSeg} (ho : segOk c s = true) (n t : Str) : (psS c s n t).Pairwise fun a b => a.1 < b.1 := by
  obtain ⟨h1, h2, h3⟩ := seg_is ho
  unfold psS
  refine List.pairwise_map.2 ?_
  rw [h3, postsAt_seg]
  have key : ∀ docs : List GDoc, (docs.Pairwise fun a b => a.Id < b.Id) → (docs.flatMap (docPost c n t)).Pairwise fun a b => a.Doc < b.Doc := fun docs => by
    induction docs with
    | nil => intro _; exact List.Pairwise.nil
    | cons d r ih =>
      intro hp
      have hc := List.pairwise_cons.1 hp
      rw [List.flatMap_cons]
      refine List.pairwise_append.2 ⟨?_, ih hc.2, fun a ha b hb => ?_⟩
      · unfold docPost; split
        · exact List.pairwise_singleton _ _
        · exact List.Pairwise.nil
      · obtain ⟨e, he, hb⟩ := List.mem_flatMap.1 hb
        have ha' : a.Doc = d.Id := by
          unfold docPost at ha; split at ha
          · rcases List.mem_singleton.1 ha with rfl; rfl
          · cases ha
        have hb' : b.Doc = e.Id := by
          unfold docPost at hb; split at hb
          · rcases List.mem_singleton.1 hb with rfl; rfl
          · cases hb
        rw [ha', hb']; exact hc.1 e he
  exact key s.Docs (docs_ids h2).2.2
theorem set_mid {α : Type} (A C : List α) (y z : α) : (A ++ y :: C).set A.length z = A ++ z :: C := by
  rw [List.set_append_right _ _ (Nat.le_refl _), Nat.sub_self]; rfl
theorem get_mid {α : Type} (A C : List α) (y : α) : getI (A ++ y :: C) (A.length : Int) = some y := by
  rw [getI_nat', List.getElem?_append_right (Nat.le_refl _), Nat.sub_self]; rfl
theorem quo_two (i : Nat) (h : i ≤ 1000000) : quoI (i : Int) 2 = some ((i / 2 : Nat) : Int) := quo_nat (b := 2) (by omega) (by omega)
theorem law_boundOf (code : List UInt8) : ∃ F, M.laws_FnBoundOf F code = some true := by
  refine ⟨2000000000, ?_⟩
  generalize hF : 2000000000 = F
  unfold M.laws_FnBoundOf
  cases decide ((1048576 : Int) < (code.length : Int))
  case true => rfl
  obtain ⟨c, s, n, t, hw, hc, hd⟩ := drawSegPosts_ok F code (by omega)
  have hfew := hd.few
  have hst := hc.stops
  rw [cond_false]
  unfold M.spec_DrawBoundOf
  rw [hw, Option.bind_some, Option.bind_some]
  dsimp only
  have hbl : (boundsS c s n t).length ≤ 100000 := by
    unfold boundsS
    split
    · rename_i ho
      have hpl := (postsAt_fits ho n t).1
      rw [blk_len]
      unfold psS
      rw [List.length_map]; omega
    · simp
  have hfo := foBlocks_self F _ hbl (by omega)
  rw [impl_boundOf F c s n t hd hc (by omega), Option.bind_some, spec_boundOf F c s n t hd hc (by omega), Option.bind_some, hfo, Option.bind_some, Bool.not_true, cond_false, impl_ok F c s (by omega) (by omega) (by omega), Option.bind_some, Option.bind_some, Option.bind_some, hfo, Option.bind_some]
  cases ho : segOk c s with
  | false => rfl
  | true =>
    have hpl := (postsAt_fits ho n t).1
    have hbs : boundsS c s n t = blk (psS c s n t) := by unfold boundsS; rw [if_pos ho]
    have hlen : (psS c s n t).length = (postsAt s n t).length := by unfold psS; rw [List.length_map]
    have hup := ps_up ho n t
    have hub := blk_up hup
    rw [hbs] at hbl ⊢
    rw [Bool.not_true, cond_false, impl_segPosts F c s n t (by omega) (by omega) (by omega), if_pos ho, Option.bind_some]
    have hmk : makeL 8 ((blk (psS c s n t)).length : Int) (0 : Int) = some (List.replicate (blk (psS c s n t)).length 0) := by
      unfold makeL
      rw [if_pos (by omega)]; simp
    rw [hmk, Option.bind_some]
    obtain ⟨r, hr, he⟩ := whileM_run (σ := Int × (List Int)) (τ := (List Int) ⊕ Bool) (f := (fun (s159 : Int × (List Int)) => (cond (decide (s159.1 < ((postsAt s n t).length : Int))) (Option.bind (getI (postsAt s n t) s159.1) fun x179 => (Option.bind (M.laws_foPoints F c s n t x179.Doc) fun r193 => (Option.bind (getI (postsAt s n t) s159.1) fun x205 => (Option.bind (M.impl_BoundAt F (blk (psS c s n t)) x205.Doc) fun r219 => (cond (decide (r219 < r193)) (some (.inr (.inr false))) (Option.bind (quoI s159.1 (2 : Int)) fun x232 => (Option.bind (getI s159.2 x232) fun x235 => (cond (decide (x235 < r193)) (Option.bind (quoI s159.1 (2 : Int)) fun x245 => (Option.bind (getI s159.2 x245) fun x248 => (some (.inl ((w64 (s159.1 + (1 : Int))), (List.set s159.2 (x245).toNat r193)))))) (some (.inl ((w64 (s159.1 + (1 : Int))), s159.2))))))))))) (some (.inr (.inl s159.2))))))
      (Post := fun a => a = .inl (bestL (psS c s n t))) (fun i st => st = ((i : Int), bestL ((psS c s n t).take i) ++ List.replicate ((blk (psS c s n t)).length - (blk ((psS c s n t).take i)).length) 0)) (postsAt s n t).length (fun i st hi hst => by
        subst hst
        obtain ⟨A, C, y, e1, e2, e3, e4⟩ := best_step (ps := psS c s n t) (i := i) (by omega)
        have hpi : (psS c s n t)[i]'(by omega) = ((postsAt s n t)[i].Doc, pointsS c s n t (postsAt s n t)[i].Doc) := by simp [psS]
        have hge := bound_ge hup _ (List.getElem_mem (show i < (psS c s n t).length by omega))
        rw [hpi] at hge e4
        refine .inl ⟨(((i + 1 : Nat) : Int), A ++ max y ((pointsS c s n t (postsAt s n t)[i].Doc : Nat) : Int) :: C), ?_, by rw [← e4]⟩
        dsimp only at hge ⊢
        rw [decide_eq_true (by omega), cond_true, getI_at hi, Option.bind_some, fo_points F c s n t _ ho hd hc (by omega), Option.bind_some, Option.bind_some, impl_boundAt F _ _ hub hbl (by omega), Option.bind_some, decide_eq_false (by omega), cond_false, quo_two i (by omega), Option.bind_some, e1, ← e2, get_mid, Option.bind_some, w64_succ' (by omega)]
        by_cases hm : y < ((pointsS c s n t (postsAt s n t)[i].Doc : Nat) : Int)
        · rw [decide_eq_true hm, cond_true, Option.bind_some, get_mid, Option.bind_some, Int.toNat_natCast, set_mid, Int.max_eq_right (by omega)]
        · rw [decide_eq_false hm, cond_false, Int.max_eq_left (by omega)]) (fun st hst => by
        subst hst
        refine ⟨_, by dsimp only; rw [decide_eq_false (by omega)]; rfl, ?_⟩
        rw [← hlen, List.take_length, Nat.sub_self, List.replicate_zero, List.append_nil]) (postsAt s n t).length 0 ((0 : Int), List.replicate (blk (psS c s n t)).length 0) F (by omega) (by omega) (by simp [bestL, blk])
    rw [hr, Option.bind_some, he]
    simp only [Sum.elim_inl, Option.bind_some]
    have hbest : (bestL (psS c s n t)).length = (blk (psS c s n t)).length := by unfold bestL; rw [List.length_map]
    rw [clean0' (n := (blk (psS c s n t)).length) F (by omega) (fun i hi => ?_) ?_]
    · simp only [Sum.elim_inl, Option.bind_some]
      have hb := blk_len (psS c s n t)
      rw [show ((postsAt s n t).length : Int) + 2 = (((postsAt s n t).length + 2 : Nat) : Int) by push_cast; rfl, w64_nat (by omega), w64_pred (by omega) (by omega), quo_two _ (by omega), Option.bind_some]
      have : ((blk (psS c s n t)).length : Int) = (((postsAt s n t).length + 2 - 1) / 2 : Nat) := by omega
      rw [beq_iff_eq.2 this]
    · rw [decide_eq_false (by omega)]; rfl
    · have hgb : (bestL (psS c s n t))[i]'(by omega) = (blk (psS c s n t))[i].Most := by simp [bestL]
      rw [decide_eq_true (by omega), cond_true, getI_at hi, Option.bind_some, getI_at (show i < (bestL (psS c s n t)).length by omega), Option.bind_some, hgb, beq_self_eq_true, Bool.not_true, cond_false]
      by_cases h0 : i = 0
      · subst h0
        rfl
      · have := List.pairwise_iff_getElem.1 hub (i - 1) i (by omega) (by omega) (by omega)
        rw [decide_eq_true (show (0 : Int) < (i : Int) by omega), cond_true, Option.bind_some, w64_pred (by omega) (by omega), getI_at (show i - 1 < (blk (psS c s n t)).length by omega), Option.bind_some, decide_eq_false (by omega), Option.bind_some, cond_false, w64_succ' (by omega)]
end Go.Fk
