/-
  What two shards count by kind is counted of all: the law holds for every code.
-/
import Derived.Test.YtoeajphlomankaaLawFacet
set_option linter.unusedVariables false
set_option maxRecDepth 100000
namespace Go.Fk
open Go

theorem spec_put8 (F : Nat) (l : List Int) (n : Int) (hl : l.length ≤ 1000) (hF : 2000 < F) : ∃ r, M.spec_l8Put F l n = some r ∧ r.length ≤ l.length + 1 := by
  unfold M.spec_l8Put
  have hrl := rankB_le (fun x : Int => decide (x < n)) l
  rw [rank_while0 (xs := l) (fun x : Int => decide (x < n)) F (by omega) (fun i x hx => ?_) ?_]
  · generalize hk : rankB (fun x : Int => decide (x < n)) l = k at *
    rw [Option.bind_some, Option.bind_some]
    have hput : ∃ r, (Option.bind (subL l 0 (k : Int)) fun x75 => (Option.bind (catL 8 ([] : List Int) x75) fun x82 => (Option.bind (catL 8 x82 ([n] : List Int)) fun x100 => (Option.bind (subL l (k : Int) l.length) fun x111 => (Option.bind (catL 8 x100 x111) fun x118 => (some x118)))))) = some r ∧ r.length ≤ l.length + 1 := by
      rw [subL_head hrl, Option.bind_some, catLok (by simp only [List.length_nil, List.length_take]; omega), Option.bind_some, catLok (by simp only [List.nil_append, List.length_take, List.length_singleton]; omega), Option.bind_some, subL_tail hrl, Option.bind_some, catLok (by simp only [List.nil_append, List.length_take, List.length_singleton, List.length_append, List.length_drop]; omega), Option.bind_some]
      exact ⟨_, rfl, by simp; omega⟩
    rcases Nat.lt_or_ge k l.length with h | h
    · rw [decide_eq_true (by omega), cond_true, getI_nat', List.getElem?_eq_getElem h, Option.bind_some, Option.bind_some]
      cases (l[k] == n) with
      | true => exact ⟨l, rfl, by omega⟩
      | false => exact hput
    · rw [decide_eq_false (by omega), cond_false, Option.bind_some]
      exact hput
  · rw [decide_eq_false (by omega)]; rfl
  · have hi := (List.getElem?_eq_some_iff.1 hx).1
    rw [decide_eq_true (by omega), cond_true, getI_nat', hx, Option.bind_some, Option.bind_some, w64_succ' (by omega)]
    cases decide (x < n) <;> rfl
theorem drawFacet_ok (F : Nat) (code : List UInt8) (hF : 2000 < F) : ∃ ds ids name, M.spec_DrawFacetOf F code = some (ds, ids, name) ∧ DocsDrawn 6 ds ∧ ids.length ≤ 10 := by
  unfold M.spec_DrawFacetOf
  obtain ⟨r, hr, h1, h2⟩ := open_ok F code
  rw [hr, Option.bind_some]
  obtain ⟨ds, p, hs, ⟨p0, p1⟩, hd⟩ := anyDocs_ok F r ⟨h1, by omega, by omega⟩ (by omega)
  rw [hs, Option.bind_some]
  dsimp only
  have hdl := hd.1
  obtain ⟨t, ht, hb, hp0, hp1, hlen⟩ := whileM_run (σ := (List Int) × Int × GL30Rd) (τ := (List Int) × GL30Rd) (f := (fun (s58 : (List Int) × Int × GL30Rd) => (cond (decide (s58.2.1 < (ds.length : Int))) (Option.bind (M.spec_l30Rd_pick F s58.2.2 (4 : Int)) fun r84 => (cond (decide ((0 : Int) < r84.1)) (Option.bind (getI ds s58.2.1) fun x100 => (Option.bind (M.spec_l8Put F s58.1 x100.Id) fun r118 => (some (.inl (r118, (w64 (s58.2.1 + (1 : Int))), r84.2))))) (some (.inl (s58.1, (w64 (s58.2.1 + (1 : Int))), r84.2))))) (some (.inr (s58.1, s58.2.2))))))
    (Post := fun t => t.2.b_ = r.b_ ∧ 0 ≤ t.2.p_ ∧ t.2.p_ ≤ 200000 ∧ t.1.length ≤ 10) (fun i s => s.2.1 = (i : Int) ∧ s.1.length ≤ i ∧ s.2.2.b_ = r.b_ ∧ 0 ≤ s.2.2.p_ ∧ s.2.2.p_ ≤ 100000 + i) ds.length (fun i s hi hs => by
      obtain ⟨s1, s2, b, q⟩ := s
      obtain ⟨e1, e2, e3, e4, e5⟩ := hs
      simp only at e1 e2 e3 e4 e5
      subst e1
      subst e3
      dsimp only
      obtain ⟨a, ha, a0, a1⟩ := pick_ok F ⟨r.b_, q⟩ 4 ⟨h1, e4, by simp only; omega⟩
      rw [decide_eq_true (by omega), cond_true, ha, Option.bind_some, w64_succ' (by omega)]
      refine .inl ?_
      dsimp only
      cases decide (0 < a) with
      | false => exact ⟨_, rfl, rfl, by simp only; omega, rfl, by simp only; omega, by simp only; omega⟩
      | true =>
        rw [cond_true, getI_at hi, Option.bind_some]
        obtain ⟨z, hz, hzl⟩ := spec_put8 F s1 ds[i].Id (by omega) hF
        rw [hz, Option.bind_some]
        exact ⟨_, rfl, rfl, by simp only; omega, rfl, by simp only; omega, by simp only; omega⟩) (fun s hs => by
      obtain ⟨s1, s2, b, q⟩ := s
      obtain ⟨e1, e2, e3, e4, e5⟩ := hs
      simp only at e1 e2 e3 e4 e5
      subst e1
      dsimp only
      rw [decide_eq_false (by omega)]
      exact ⟨_, rfl, e3, e4, by simp only; omega, by simp only; omega⟩) ds.length 0 (([] : List Int), (0 : Int), ⟨r.b_, p⟩) F (by omega) (by omega) ⟨rfl, by simp, rfl, by simp only; omega, by simp only; omega⟩
  rw [ht, Option.bind_some, Option.bind_some]
  dsimp only
  obtain ⟨n, hn, hn2⟩ := of_ok F t.2 [[114, 97, 116, 101], [121, 101, 97, 114], [110, 111, 110, 101]] ⟨by rw [hb]; exact h1, hp0, by omega⟩ (by simp)
  rw [hn2, Option.bind_some]
  exact ⟨_, _, _, rfl, hd, hlen⟩
theorem foFacets_self (F : Nat) (l : List GFacet) (hl : l.length ≤ 1000) (hF : 2000 < F) : M.laws_foFacets F l l = some true := by
  unfold M.laws_foFacets
  rw [beq_self_eq_true, Bool.not_true, cond_false, clean0' (n := l.length) F (by omega) (fun i hi => ?_) ?_]
  · rfl
  · rw [decide_eq_false (by omega)]; rfl
  · rw [decide_eq_true (by omega), cond_true, getI_at hi, Option.bind_some, Option.bind_some, beq_self_eq_true, beq_self_eq_true, w64_succ' (by omega)]
    rfl
/-! ## shards -/
theorem pairS_of {α : Type} {ok : α → Bool} {lt : α → α → Bool} {xs : List α} (h1 : ∀ x ∈ xs, ok x = true) (h2 : xs.Pairwise fun a b => lt a b = true) : pairS ok lt xs = true := by
  unfold pairS
  rw [List.all_eq_true]
  intro q hq
  obtain ⟨i, hi⟩ := List.mem_iff_getElem?.1 hq
  obtain ⟨hx, rfl⟩ := zipAt hi
  have hlt := (List.getElem?_eq_some_iff.1 hx).1
  unfold pairP
  rw [h1 _ (List.mem_of_getElem? hx), Bool.true_and]
  by_cases h0 : q.2 = 0
  · rw [decide_eq_true h0]; rfl
  · rw [decide_eq_false h0, Bool.false_or, List.getElem?_eq_getElem (show q.2 - 1 < xs.length by omega), Option.elim_some]
    have e : xs[q.2] = q.1 := (List.getElem?_eq_some_iff.1 hx).2
    rw [← e]
    exact List.pairwise_iff_getElem.1 h2 _ _ _ _ (by omega)
theorem docs_filter {ds : List GDoc} (h : docsS ds = true) (p : GDoc → Bool) : docsS (ds.filter p) = true := by
  obtain ⟨i1, i2, i3⟩ := docs_ids h
  have hall := docs_ok_all h
  unfold docsS
  rw [Bool.and_eq_true]
  refine ⟨pairS_of (fun x hx => hall x (List.mem_filter.1 hx).1) ((i3.filter p).imp fun {a b} h => decide_eq_true h), decide_eq_true ?_⟩
  have := List.length_filter_le p ds
  omega
theorem sel_cons (d : GDoc) (ds : List GDoc) (ids : List Int) (name : Str) : selS (d :: ds) ids name = selG ids name d ++ selS ds ids name := by unfold selS; rw [List.flatMap_cons]
theorem count_two (ids : List Int) (name : Str) (n : Int) : ∀ ds : List GDoc, (∀ d ∈ ds, d.Id.tmod 2 = 0 ∨ d.Id.tmod 2 = 1) → (selS (ds.filter (shardP 2 0)) ids name).count n + (selS (ds.filter (shardP 2 1)) ids name).count n = (selS ds ids name).count n
  | [], _ => rfl
  | d :: ds, h => by
    have ih := count_two ids name n ds fun x hx => h x (List.mem_cons_of_mem _ hx)
    rcases h d (List.mem_cons_self ..) with e | e
    · have e0 : shardP 2 0 d = true := by unfold shardP; rw [e]; rfl
      have e1 : shardP 2 1 d = false := by unfold shardP; rw [e]; rfl
      rw [List.filter_cons_of_pos e0, List.filter_cons_of_neg (by rw [e1]; simp), sel_cons, sel_cons, List.count_append, List.count_append]
      omega
    · have e0 : shardP 2 0 d = false := by unfold shardP; rw [e]; rfl
      have e1 : shardP 2 1 d = true := by unfold shardP; rw [e]; rfl
      rw [List.filter_cons_of_neg (by rw [e0]; simp), List.filter_cons_of_pos e1, sel_cons, sel_cons, List.count_append, List.count_append]
      omega
theorem sort_counts (ns : List Int) : Counts (sortP (countP' ns)) ns := by
  obtain ⟨h1, h2⟩ := facets_same ns
  have h3 := count_ok ns
  refine ⟨?_, fun p => by rw [h2, h3.2]⟩
  refine List.Pairwise.imp_of_mem (fun {a b} ha hb h e => ?_) h1
  have ha := (h3.2 a).1 ((h2 a).1 ha)
  have hb := (h3.2 b).1 ((h2 b).1 hb)
  have : a = b := Prod.ext e (by rw [ha.2, hb.2, e])
  rw [this, ltF_irr] at h; cases h
/-- adding up by one number -/
theorem add_up (n : Int) : ∀ (l : List (Int × Int)) (s : Int), (l.Pairwise fun a b => a.1 ≠ b.1) → l.foldl (fun s p => if p.1 == n then s + p.2 else s) s = s + lookM l n
  | [], s, _ => by simp [lookM]
  | p :: l, s, hd => by
    have hc := List.pairwise_cons.1 hd
    rw [List.foldl_cons, add_up n l _ hc.2]
    unfold lookM
    rw [List.find?_cons]
    cases hp : p.1 == n with
    | true =>
      have e := eq_of_beq hp
      have : (l.find? fun q => q.1 == n) = none := List.find?_eq_none.2 fun q hq k => hc.1 q hq (e.trans (eq_of_beq k).symm)
      rw [this]; simp
    | false => simp
theorem add_while (F : Nat) (l : List (Int × Int)) (x : GFacet) (n0 : Int) (hl : l.length ≤ 1000) (hv : ∀ p ∈ l, 0 ≤ p.2 ∧ p.2 ≤ 1000) (hn : 0 ≤ n0 ∧ n0 ≤ 10000000) (hd : l.Pairwise fun a b => a.1 ≠ b.1) (hF : 2000 < F) {f : Int × Int → Option ((Int × Int) ⊕ Int)}
    (h : ∀ (i : Nat) q s, (l.map facetOf)[i]? = some q → f (s, (i : Int)) = (cond (q.Num == x.Num) (some (.inl ((w64 (s + q.Many)), (w64 ((i : Int) + (1 : Int)))))) (some (.inl (s, (w64 ((i : Int) + (1 : Int))))))))
    (h0 : ∀ s, f (s, ((l.map facetOf).length : Int)) = some (.inr s)) : whileM f F (n0, (0 : Int)) = some (n0 + lookM l x.Num) := by
  have := fold_while (xs := l) (fun (s : Int) p => if p.1 == x.Num then s + p.2 else s) (fun i s => 0 ≤ s ∧ s ≤ 10000000 + 1000 * (i : Int)) (fun s => s) (fun s i => (s, i)) (f := f) (s0 := (n0, (0 : Int))) n0 rfl F (by omega) ⟨by omega, by omega⟩ (fun i p s hp hs => ?_) (fun s hs => ?_)
  · rw [this.1, add_up x.Num l n0 hd]
  · have hi := (List.getElem?_eq_some_iff.1 hp).1
    have hv0 := hv p (List.mem_of_getElem? hp)
    rw [h i (facetOf p) s (by rw [List.getElem?_map, hp]; rfl), w64_succ' (by omega)]
    rw [show w64 (s + (facetOf p).Many) = s + p.2 from w64_of ⟨by show _ ≤ s + p.2; omega, by show s + p.2 ≤ _; omega⟩]
    show cond (p.1 == x.Num) _ _ = _ ∧ _
    cases p.1 == x.Num with
    | true => exact ⟨rfl, by simp only [if_true]; omega⟩
    | false => exact ⟨rfl, by simp only [Bool.false_eq_true, if_false]; omega⟩
  · have := h0 s
    rwa [List.length_map] at this
theorem law_shardFacet (code : List UInt8) : ∃ F, M.laws_FnShardFacet F code = some true := by
  refine ⟨5000, ?_⟩
  generalize hF : 5000 = F
  unfold M.laws_FnShardFacet
  cases decide ((1048576 : Int) < (code.length : Int))
  case true => rfl
  obtain ⟨ds, ids, name, hw, hdd, hil⟩ := drawFacet_ok F code (by omega)
  have hd := hdd.fit (by omega)
  have hl := hd.few
  rw [cond_false, hw, Option.bind_some]
  dsimp only
  have hfl : (facS ds ids name).length ≤ 1000 := by
    unfold facS
    split
    · rw [List.length_map]
      have h1 := counts_len (sort_counts (selS ds ids name))
      have h2 := selS_len ds ids name
      omega
    · simp
  have hfo := foFacets_self F _ hfl (by omega)
  rw [impl_facet F ds ids name (by omega) (by omega), Option.bind_some, spec_facet F ds ids name hd (by omega) (by omega), Option.bind_some, hfo, Option.bind_some, Bool.not_true, cond_false, impl_docs F ds (by omega), Option.bind_some, Option.bind_some, hfo, Option.bind_some]
  cases hds : docsS ds with
  | false => rfl
  | true =>
    obtain ⟨i1, i2, i3⟩ := docs_ids hds
    rw [Bool.not_true, cond_false, impl_up F ids (by omega), Option.bind_some, Option.bind_some]
    cases hup : upS ids with
    | false => rfl
    | true =>
      have hmod : ∀ d ∈ ds, d.Id.tmod 2 = 0 ∨ d.Id.tmod 2 = 1 := fun d hm => by
        have := i2 d hm
        rw [Int.tmod_eq_emod_of_nonneg (by omega)]; omega
      have hsh : ∀ k : Int, k = 0 ∨ k = 1 → M.impl_ShardOf F ds 2 k = some (ds.filter (shardP 2 k)) := fun k hk => by
        rw [impl_shard F ds 2 k hd (by omega)]
        unfold shardS shardOkS
        rw [hds]
        rcases hk with rfl | rfl <;> rfl
      have hfs : ∀ k : Int, M.impl_FacetOf F (ds.filter (shardP 2 k)) ids name = some ((sortP (countP' (selS (ds.filter (shardP 2 k)) ids name))).map facetOf) := fun k => by
        have := List.length_filter_le (shardP 2 k) ds
        rw [impl_facet F _ ids name (by omega) (by omega)]
        unfold facS
        rw [docs_filter hds, hup]; rfl
      have hbnd : ∀ k : Int, (sortP (countP' (selS (ds.filter (shardP 2 k)) ids name))).length ≤ 1000 ∧ ∀ p ∈ sortP (countP' (selS (ds.filter (shardP 2 k)) ids name)), 0 ≤ p.2 ∧ p.2 ≤ 1000 := fun k => by
        have hc := sort_counts (selS (ds.filter (shardP 2 k)) ids name)
        have h1 := counts_len hc
        have h2 := selS_len (ds.filter (shardP 2 k)) ids name
        have h3 := List.length_filter_le (shardP 2 k) ds
        refine ⟨by omega, fun p hp => ?_⟩
        have h4 := ((hc.2 p).1 hp).2
        have h5 : (selS (ds.filter (shardP 2 k)) ids name).count p.1 ≤ (selS (ds.filter (shardP 2 k)) ids name).length := List.count_le_length
        omega
      rw [Bool.not_true, cond_false, hsh 0 (.inl rfl), Option.bind_some, hfs 0, Option.bind_some, hsh 1 (.inr rfl), Option.bind_some, hfs 1, Option.bind_some]
      have hfac : facS ds ids name = (sortP (countP' (selS ds ids name))).map facetOf := by unfold facS; rw [hds, hup]; rfl
      rw [hfac] at hfl ⊢
      rw [clean0' (n := ((sortP (countP' (selS ds ids name))).map facetOf).length) F (by omega) (fun i hi => ?_) ?_]
      · rfl
      · rw [decide_eq_false (by omega)]; rfl
      · have hi' := hi
        rw [List.length_map] at hi'
        have hgx : getI ((sortP (countP' (selS ds ids name))).map facetOf) (i : Int) = some (facetOf (sortP (countP' (selS ds ids name)))[i]) := by rw [getI_nat', List.getElem?_map, List.getElem?_eq_getElem hi']; rfl
        have hx := (sort_counts (selS ds ids name)).2 (sortP (countP' (selS ds ids name)))[i] |>.1 (List.getElem_mem hi')
        rw [decide_eq_true (by omega), cond_true]
        rw [add_while F (sortP (countP' (selS (ds.filter (shardP 2 0)) ids name))) (facetOf (sortP (countP' (selS ds ids name)))[i]) 0 (hbnd 0).1 (hbnd 0).2 (by omega) (sort_counts _).1 (by omega) (fun j q s hq => by
          have hj := (List.getElem?_eq_some_iff.1 hq).1
          dsimp only
          rw [decide_eq_true (by omega), cond_true, getI_nat', hq, Option.bind_some, hgx, Option.bind_some]; rfl) (fun s => by
          dsimp only
          rw [decide_eq_false (by omega)]; rfl), Option.bind_some, Option.bind_some]
        have hk0 : lookM (sortP (countP' (selS (ds.filter (shardP 2 0)) ids name))) (facetOf (sortP (countP' (selS ds ids name)))[i]).Num = _ := (sort_counts _).look _
        have hb0 : (selS (ds.filter (shardP 2 0)) ids name).count (facetOf (sortP (countP' (selS ds ids name)))[i]).Num ≤ 1000 := by
          have h1 : (selS (ds.filter (shardP 2 0)) ids name).count (facetOf (sortP (countP' (selS ds ids name)))[i]).Num ≤ (selS (ds.filter (shardP 2 0)) ids name).length := List.count_le_length
          have h2 := selS_len (ds.filter (shardP 2 0)) ids name
          have h3 := List.length_filter_le (shardP 2 0) ds
          omega
        rw [add_while F (sortP (countP' (selS (ds.filter (shardP 2 1)) ids name))) (facetOf (sortP (countP' (selS ds ids name)))[i]) _ (hbnd 1).1 (hbnd 1).2 (by rw [hk0]; omega) (sort_counts _).1 (by omega) (fun j q s hq => by
          have hj := (List.getElem?_eq_some_iff.1 hq).1
          dsimp only
          rw [decide_eq_true (by omega), cond_true, getI_nat', hq, Option.bind_some, hgx, Option.bind_some]; rfl) (fun s => by
          dsimp only
          rw [decide_eq_false (by omega)]; rfl), Option.bind_some, Option.bind_some, hgx, Option.bind_some, w64_succ' (by omega)]
        have hk1 : lookM (sortP (countP' (selS (ds.filter (shardP 2 1)) ids name))) (facetOf (sortP (countP' (selS ds ids name)))[i]).Num = _ := (sort_counts _).look _
        have hsum := count_two ids name (facetOf (sortP (countP' (selS ds ids name)))[i]).Num ds hmod
        have hmany : 0 + lookM (sortP (countP' (selS (ds.filter (shardP 2 0)) ids name))) (facetOf (sortP (countP' (selS ds ids name)))[i]).Num + lookM (sortP (countP' (selS (ds.filter (shardP 2 1)) ids name))) (facetOf (sortP (countP' (selS ds ids name)))[i]).Num = (facetOf (sortP (countP' (selS ds ids name)))[i]).Many := by
          rw [hk0, hk1]
          have h2 : (facetOf (sortP (countP' (selS ds ids name)))[i]).Many = ((selS ds ids name).count (facetOf (sortP (countP' (selS ds ids name)))[i]).Num : Int) := hx.2
          rw [h2]; omega
        rw [beq_iff_eq.2 hmany]; rfl
end Go.Fk
