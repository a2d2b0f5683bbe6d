/-
  Each document is in one shard: in plain data. Of no program.
-/
import Derived.Test.YtajfhpaokbgmeaaLawDrawDocs
namespace Go.Fk
open Go

theorem rem_ok {a b : Int} (hb : b ≠ 0) : remI a b = some (a.tmod b) := by unfold remI; rw [if_neg hb]
theorem foDoc_self (F : Nat) (d : GDoc) (hd : DocFit d) (hF : 2000 < F) : M.laws_foDoc F d d = some true := by
  obtain ⟨b1, b2, _, _⟩ := hd
  unfold M.laws_foDoc
  simp only [beq_self_eq_true, Bool.not_true, cond_false, Option.bind_some]
  rw [clean0' (n := d.Fields.length) F (by omega) (fun i hi => ?_) ?_]
  · simp only [Option.bind_some, Sum.elim_inl]
    rw [clean0' (n := d.Nums.length) F (by omega) (fun i hi => ?_) ?_]
    · rfl
    · rw [decide_eq_false (by omega)]; rfl
    · rw [decide_eq_true (by omega), cond_true, getI_at hi, Option.bind_some, Option.bind_some, w64_succ' (by omega)]
      simp
  · rw [decide_eq_false (by omega)]; rfl
  · rw [decide_eq_true (by omega), cond_true, getI_at hi, Option.bind_some, Option.bind_some, w64_succ' (by omega)]
    simp
theorem foDocs_self (F : Nat) (ds : List GDoc) (hd : DocsFit ds) (hF : 2000 < F) : M.laws_foDocs F ds ds = some true := by
  have hl := hd.few
  unfold M.laws_foDocs
  rw [beq_self_eq_true, Bool.not_true, cond_false, clean0' (n := ds.length) F (by omega) (fun i hi => ?_) ?_]
  · rfl
  · rw [decide_eq_false (by omega)]; rfl
  · rw [decide_eq_true (by omega), cond_true, getI_at hi, Option.bind_some, Option.bind_some, foDoc_self F _ (hd.doc _ (List.getElem_mem hi)) hF, w64_succ' (by omega)]
    rfl
theorem DocsFit.filter {ds : List GDoc} (h : DocsFit ds) (p : GDoc → Bool) : DocsFit (ds.filter p) :=
  ⟨by have := List.length_filter_le p ds; have := h.few; omega, fun d hd => h.doc d (List.mem_filter.1 hd).1⟩
def shardP (many which : Int) (d : GDoc) : Bool := d.Id.tmod many == which
def shardOkS (many which : Int) : Bool := (decide (1 ≤ many) && decide (many ≤ 4)) && (decide (0 ≤ which) && decide (which ≤ many - 1))
def shardS (ds : List GDoc) (many which : Int) : List GDoc := if docsS ds && shardOkS many which then ds.filter (shardP many which) else []
theorem impl_shard (F : Nat) (ds : List GDoc) (many which : Int) (hd : DocsFit ds) (hm : -1000 ≤ many ∧ many ≤ 1000) : M.impl_ShardOf F ds many which = some (shardS ds many which) := by
  have hl := hd.few
  unfold M.impl_ShardOf shardS shardOkS
  rw [impl_docs F ds (by omega), Option.bind_some]
  cases hds : docsS ds with
  | false => rfl
  | true =>
    unfold M.impl_shardOk
    rw [Bool.not_true, cond_false, withinS, Option.bind_some]
    cases h1 : (decide (1 ≤ many) && decide (many ≤ 4)) with
    | false => rfl
    | true =>
      rw [cond_true, withinS, w64_of ⟨by omega, by omega⟩, Option.bind_some, Option.bind_some]
      cases (decide (0 ≤ which) && decide (which ≤ many - 1)) with
      | false => rfl
      | true =>
        have hmany : many ≠ 0 := by
          rw [Bool.and_eq_true, decide_eq_true_iff] at h1
          omega
        simp only [Bool.not_true, Option.bind_some, cond_false]
        rw [keepE (p := shardP many which) (by omega) (fun i w out hw ho => ?_)]
        · rfl
        · have hdw := hd.doc w (List.mem_of_getElem? hw)
          have b1 := hdw.fields
          have b2 := hdw.nums
          rw [getI_nat', hw, Option.bind_some, rem_ok hmany, Option.bind_some]
          unfold shardP
          cases w.Id.tmod many == which
          · rfl
          · rw [cond_true, impl_clone F w (by omega) (by omega), Option.bind_some, catLok (by simp only [List.length_singleton]; omega)]; rfl
theorem spec_shard (F : Nat) (ds : List GDoc) (many which : Int) (hd : DocsFit ds) (hm : -1000 ≤ many ∧ many ≤ 1000) (hF : 2000 < F) : M.spec_ShardOf F ds many which = some (shardS ds many which) := by
  have hl := hd.few
  unfold M.spec_ShardOf shardS shardOkS
  rw [spec_docs F ds hd hF, Option.bind_some]
  cases hds : docsS ds with
  | false => rfl
  | true =>
    rw [Bool.not_true, cond_false, inS, Option.bind_some]
    cases h1 : (decide (1 ≤ many) && decide (many ≤ 4)) with
    | false => rfl
    | true =>
      rw [Bool.not_true, cond_false, inS, w64_of ⟨by omega, by omega⟩, Option.bind_some, Option.bind_some]
      cases (decide (0 ≤ which) && decide (which ≤ many - 1)) with
      | false => rfl
      | true =>
        have hmany : many ≠ 0 := by
          rw [Bool.and_eq_true, decide_eq_true_iff] at h1
          omega
        simp only [Bool.not_true, cond_false]
        rw [keepW (ws := ds) (p := shardP many which) (by omega) (fun i w out hw ho => ?_) (fun out => ?_) F (by omega)]
        · rfl
        · have hi := (List.getElem?_eq_some_iff.1 hw).1
          have hdw := hd.doc w (List.mem_of_getElem? hw)
          have b1 := hdw.fields
          have b2 := hdw.nums
          dsimp only
          rw [decide_eq_true (by omega), cond_true, getI_nat', hw, Option.bind_some, rem_ok hmany, Option.bind_some, w64_succ' (by omega)]
          unfold shardP
          cases w.Id.tmod many == which
          · rfl
          · rw [cond_true, Option.bind_some, spec_clone F w (by omega) (by omega), Option.bind_some, catLok (by simp only [List.length_singleton]; omega)]; rfl
        · dsimp only
          rw [decide_eq_false (by omega)]; rfl
theorem find_ok (F : Nat) (ds : List GDoc) (d : GDoc) (hm : d ∈ ds) (hp : ds.Pairwise fun a b => a.Id < b.Id) (hl : ds.length ≤ 1000) (hF : 2000 < F) : M.laws_foFind F ds d.Id = some d := by
  obtain ⟨k, hk, hkd⟩ := List.mem_iff_getElem.1 hm
  unfold M.laws_foFind
  obtain ⟨t, ht, hpo⟩ := whileM_run (σ := Int × GDoc) (τ := GDoc ⊕ GDoc) (f := fun (s27 : Int × GDoc) => (cond (decide (s27.1 < (ds.length : Int))) (Option.bind (getI ds s27.1) fun x50 => (cond (x50.Id == d.Id) (Option.bind (getI ds s27.1) fun x70 => (some (.inr (.inr x70)))) (some (.inl ((w64 (s27.1 + (1 : Int))), s27.2))))) (some (.inr (.inl s27.2)))))
    (Post := fun t => t = .inr d) (fun i s => s.1 = (i : Int) ∧ i ≤ k) ds.length (fun i s hi hs => by
    obtain ⟨s1, s2⟩ := s
    obtain ⟨e, hik⟩ := hs
    simp only at e
    subst e
    dsimp only
    rw [decide_eq_true (by omega), cond_true, getI_at hi, Option.bind_some, Option.bind_some, w64_succ' (by omega)]
    rcases Nat.lt_or_ge i k with h | h
    · have := List.pairwise_iff_getElem.1 hp i k hi hk h
      rw [hkd] at this
      rw [beq_eq_false_iff_ne.2 (by omega), cond_false]
      exact .inl ⟨_, rfl, rfl, by omega⟩
    · obtain rfl : i = k := by omega
      rw [hkd, beq_self_eq_true, cond_true]
      exact .inr ⟨_, rfl, rfl⟩) (fun s hs => by
    obtain ⟨s1, s2⟩ := s
    obtain ⟨_, h⟩ := hs
    omega) ds.length 0 ((0 : Int), (GDoc.mk (0 : Int) ([] : List GField) ([] : List GAttr))) F (by omega) (by omega) ⟨rfl, by omega⟩
  rw [ht, hpo]; rfl
/-- all shards together have as many documents as there are -/
theorem shard_sum (ds : List GDoc) (many : Nat) (h : ∀ d ∈ ds, 0 ≤ d.Id.tmod many ∧ d.Id.tmod many < many) : ∀ k, k ≤ many → ((List.range k).map fun (j : Nat) => (ds.filter (shardP many (j : Int))).length).sum = (ds.filter fun d => decide (d.Id.tmod many < (k : Int))).length := by
  intro k
  induction k with
  | zero =>
    intro _
    have : ds.filter (fun d => decide (d.Id.tmod many < ((0 : Nat) : Int))) = [] := by
      rw [List.filter_eq_nil_iff]
      intro d hd
      have := (h d hd).1
      simp only [decide_eq_true_iff]
      omega
    rw [this]; rfl
  | succ k ih =>
    intro hk
    rw [List.range_succ, List.map_append, List.sum_append, ih (by omega)]
    simp only [List.map_cons, List.map_nil, List.sum_cons, List.sum_nil, Nat.add_zero]
    clear ih
    induction ds with
    | nil => rfl
    | cons d ds ihd =>
      have ihd := ihd (fun x hx => h x (List.mem_cons_of_mem _ hx))
      have hd := h d (by simp)
      simp only [List.filter_cons]
      rcases Int.lt_trichotomy (d.Id.tmod many) (k : Int) with hlt | heq | hgt
      · have e : shardP (many : Int) (k : Int) d = false := beq_eq_false_iff_ne.2 (by omega)
        rw [decide_eq_true hlt, decide_eq_true (show d.Id.tmod many < ((k + 1 : Nat) : Int) by omega), e]
        simp only [if_true, Bool.false_eq_true, if_false, List.length_cons]; omega
      · have e : shardP (many : Int) (k : Int) d = true := beq_iff_eq.2 heq
        rw [decide_eq_false (show ¬ d.Id.tmod many < (k : Int) by omega), decide_eq_true (show d.Id.tmod many < ((k + 1 : Nat) : Int) by omega), e]
        simp only [if_true, Bool.false_eq_true, if_false, List.length_cons]; omega
      · have e : shardP (many : Int) (k : Int) d = false := beq_eq_false_iff_ne.2 (by omega)
        rw [decide_eq_false (show ¬ d.Id.tmod many < (k : Int) by omega), decide_eq_false (show ¬ d.Id.tmod many < ((k + 1 : Nat) : Int) by omega), e]
        simp only [Bool.false_eq_true, if_false]; omega
theorem drawShard_ok (F : Nat) (code : List UInt8) (hF : 20 ≤ F) : ∃ ds many which, M.spec_DrawShardOf F code = some (ds, many, which) ∧ DocsDrawn 6 ds ∧ 0 ≤ many ∧ many ≤ 5 := by
  unfold M.spec_DrawShardOf
  obtain ⟨r, hr, h1, h2⟩ := open_ok F code
  rw [hr, Option.bind_some]
  obtain ⟨ds, p, hs, ⟨p0, p1⟩, hd⟩ := anyDocs_ok F r ⟨h1, by omega, by omega⟩ hF
  rw [hs, Option.bind_some]
  dsimp only
  obtain ⟨a, ha, a0, a1⟩ := pick_ok F ⟨r.b_, p⟩ 6 ⟨h1, by simp only; omega, by simp only; omega⟩
  have a1 := a1 (by omega)
  rw [ha, Option.bind_some]
  dsimp only
  obtain ⟨b, hb, _, _⟩ := pick_ok F ⟨r.b_, p + 1⟩ (w64 (a + 1)) ⟨h1, by simp only; omega, by simp only; omega⟩
  rw [hb, Option.bind_some]
  dsimp only
  obtain ⟨c, hc, _, _⟩ := pick_ok F ⟨r.b_, p + 1 + 1⟩ 2 ⟨h1, by simp only; omega, by simp only; omega⟩
  rw [hc, Option.bind_some]
  exact ⟨_, _, _, rfl, hd, a0, by omega⟩
theorem law_shard (code : List UInt8) : ∃ F, M.laws_FnShardOf F code = some true := by
  refine ⟨5000, ?_⟩
  generalize hF : 5000 = F
  unfold M.laws_FnShardOf
  cases decide ((1048576 : Int) < (code.length : Int))
  case true => rfl
  obtain ⟨ds, many, which, hw, hdd, m0, m1⟩ := drawShard_ok F code (by omega)
  have hd := hdd.fit (by omega)
  have hl := hd.few
  rw [cond_false, hw, Option.bind_some]
  dsimp only
  have hsf : DocsFit (shardS ds many which) := by
    unfold shardS
    split
    · exact hd.filter _
    · exact ⟨by simp, by simp⟩
  have hfo := foDocs_self F _ hsf (by omega)
  rw [impl_shard F ds many which hd (by omega), Option.bind_some, spec_shard F ds many which hd (by omega) (by omega), Option.bind_some, hfo, Option.bind_some, Bool.not_true, cond_false, impl_docs F ds (by omega), Option.bind_some, Option.bind_some, hfo]
  cases hds : docsS ds with
  | false => rfl
  | true =>
    obtain ⟨i1, i2, i3⟩ := docs_ids hds
    rw [Bool.not_true, cond_false]
    by_cases hm1 : many < 1
    · rw [decide_eq_true hm1]; rfl
    · by_cases hm4 : 4 < many
      · rw [decide_eq_false hm1, decide_eq_true hm4]; rfl
      · rw [decide_eq_false hm1, decide_eq_false hm4, cond_false, Option.bind_some, cond_false]
        obtain ⟨m, rfl⟩ := Int.eq_ofNat_of_zero_le m0
        have hmod : ∀ d ∈ ds, 0 ≤ d.Id.tmod (m : Int) ∧ d.Id.tmod (m : Int) < m := fun d hd => by
          have := i2 d hd
          exact ⟨Int.tmod_nonneg _ (by omega), Int.tmod_lt_of_pos _ (by omega)⟩
        have hsum := shard_sum ds m hmod
        have key := fun f step fin h0 => whileM_run (σ := Int × Int) (τ := Int ⊕ Bool) (f := f) (Post := fun t => t = .inl (ds.length : Int)) (fun k s => s = ((((ds.filter fun d => decide (d.Id.tmod (m : Int) < (k : Int))).length : Nat) : Int), (k : Int)))
          m step fin m 0 ((0 : Int), (0 : Int)) F (by omega) (by omega) h0
        generalize hf : (fun (s110 : Int × Int) => _ : Int × Int → Option ((Int × Int) ⊕ (Int ⊕ Bool))) = f
        obtain ⟨t, ht, hp⟩ := key f (fun k s hk hs => by
            subst hf hs
            dsimp only
            have hfl := List.length_filter_le (fun d : GDoc => decide (d.Id.tmod (m : Int) < (k : Int))) ds
            have hsk : shardS ds (m : Int) (k : Int) = ds.filter (shardP (m : Int) (k : Int)) := by
              unfold shardS shardOkS
              rw [hds, decide_eq_true (show (1 : Int) ≤ (m : Int) by omega), decide_eq_true (show (m : Int) ≤ 4 by omega), decide_eq_true (show (0 : Int) ≤ (k : Int) by omega), decide_eq_true (show (k : Int) ≤ (m : Int) - 1 by omega)]
              rfl
            rw [decide_eq_true (by omega), cond_true, impl_shard F ds (m : Int) (k : Int) hd (by omega), hsk, Option.bind_some]
            have hfk := (hd.filter (shardP (m : Int) (k : Int)))
            have hfkl := hfk.few
            rw [clean0' (n := (ds.filter (shardP (m : Int) (k : Int))).length) F (by omega) (fun i hi => ?_) ?_]
            · simp only [Option.bind_some, Sum.elim_inl]
              rw [w64_of ⟨by omega, by omega⟩, w64_succ' (by omega)]
              refine .inl ⟨_, rfl, ?_⟩
              have s1 := hsum k (by omega)
              have s2 := hsum (k + 1) (by omega)
              rw [List.range_succ, List.map_append, List.sum_append, s1] at s2
              simp only [List.map_cons, List.map_nil, List.sum_cons, List.sum_nil, Nat.add_zero] at s2
              rw [← s2]
              simp
            · rw [decide_eq_false (by omega)]; rfl
            · have hmem := List.getElem_mem hi
              have hx := List.mem_filter.1 hmem
              have hrem : (ds.filter (shardP (m : Int) (k : Int)))[i].Id.tmod (m : Int) = (k : Int) := by
                have := hx.2
                unfold shardP at this
                exact beq_iff_eq.1 this
              rw [decide_eq_true (by omega), cond_true, getI_at hi, Option.bind_some, rem_ok (by omega), Option.bind_some, hrem, beq_self_eq_true, Bool.not_true, cond_false, Option.bind_some, Option.bind_some, find_ok F ds _ hx.1 i3 (by omega) (by omega), Option.bind_some, foDoc_self F _ (hd.doc _ hx.1) (by omega), w64_succ' (by omega)]
              rfl) (fun s hs => by
            subst hf hs
            dsimp only
            rw [decide_eq_false (by omega), cond_false]
            refine ⟨_, rfl, ?_⟩
            rw [List.filter_eq_self.2 (fun d hd => decide_eq_true (hmod d hd).2)]) (by
            have : ds.filter (fun d => decide (d.Id.tmod (m : Int) < ((0 : Nat) : Int))) = [] := by
              rw [List.filter_eq_nil_iff]
              intro d hd
              have := (hmod d hd).1
              simp only [decide_eq_true_iff]
              omega
            rw [this]; rfl)
        rw [ht, hp]
        simp
end Go.Fk
