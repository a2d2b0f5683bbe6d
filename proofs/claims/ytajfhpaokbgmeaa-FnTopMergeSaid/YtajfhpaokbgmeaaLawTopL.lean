/-
  The drawing of lists, and the law of the best of lists. Of no program.
-/
import Derived.Test.YtajfhpaokbgmeaaLawTopS
namespace Go.Fk
open Go

theorem hits_ok (F : Nat) (r : GL30Rd) (h1 : r.b_.length ≤ 2000) (h2 : 0 ≤ r.p_) (h3 : r.p_ ≤ 100000) (hF : 2000 < F) : ∃ l p, M.spec_l30Hits F r = some (l, ⟨r.b_, p⟩) ∧ r.p_ ≤ p ∧ p ≤ r.p_ + 100 ∧ l.length ≤ 5 := by
  unfold M.spec_l30Hits
  obtain ⟨n, hn, n0, n1⟩ := pick_ok F r 6 ⟨h1, by omega, by omega⟩
  have n1 := n1 (by omega)
  rw [hn, Option.bind_some]
  dsimp only
  generalize hf : (fun (s44 : (List GHit) × Int × GL30Rd) => _ : (List GHit) × Int × GL30Rd → Option (((List GHit) × Int × GL30Rd) ⊕ ((List GHit) × GL30Rd))) = f
  have key : ∀ (k : Nat) (l : List GHit) (p : Int) (F : Nat), k + 1 ≤ F → 0 ≤ p → p + 2 * k ≤ 800000 → l.length ≤ 5 - k → k ≤ 5 → ∃ l' p', whileM f F (l, (k : Int), ⟨r.b_, p⟩) = some (l', ⟨r.b_, p'⟩) ∧ p ≤ p' ∧ p' ≤ p + 2 * k ∧ l'.length ≤ 5 := by
    intro k
    induction k with
    | zero =>
      intro l p F hF _ _ hl _
      obtain ⟨F, rfl⟩ : ∃ G, F = G + 1 := ⟨F - 1, by omega⟩
      rw [whileM]
      subst hf
      exact ⟨l, p, rfl, by omega, by omega, hl⟩
    | succ k ih =>
      intro l p F' hF' p0 p1 hl hk
      obtain ⟨F', rfl⟩ : ∃ G, F' = G + 1 := ⟨F' - 1, by omega⟩
      obtain ⟨a, ha, _, _⟩ := pick_ok F ⟨r.b_, p⟩ 8 ⟨h1, p0, by simp only; omega⟩
      obtain ⟨c, hc, _, _⟩ := pick_ok F ⟨r.b_, p + 1⟩ 5 ⟨h1, by simp only; omega, by simp only; omega⟩
      have hstep : ∃ l', f (l, ((k + 1 : Nat) : Int), ⟨r.b_, p⟩) = some (.inl (l', (k : Int), ⟨r.b_, p + 1 + 1⟩)) ∧ l'.length ≤ l.length + 1 := by
        rw [← hf]
        dsimp only
        have c3 : w64 (((k + 1 : Nat) : Int) - 1) = (k : Int) := by rw [w64_of ⟨by omega, by omega⟩]; omega
        rw [decide_eq_true (by omega), cond_true, ha, Option.bind_some]
        dsimp only
        rw [hc, Option.bind_some, flag0 (p := fun g : GHit => g.Doc == w64 (1 + a)) (xs := l) F (by omega) (fun i x b hx => ?_) (fun b => ?_), Option.bind_some, Option.bind_some, c3]
        · cases l.any fun g => g.Doc == w64 (1 + a) with
          | true => exact ⟨l, rfl, by omega⟩
          | false =>
            have hp : M.spec_l13Push F l ⟨w64 (1 + a), w64 (1 + c)⟩ 16 = some ((insH ⟨w64 (1 + a), w64 (1 + c)⟩ l).take 16) := push_ok F l _ 16 (by omega) hF
            rw [Bool.not_false, cond_true, hp, Option.bind_some]
            refine ⟨_, rfl, ?_⟩
            rw [List.length_take, insH_len]; omega
        · have hi := (List.getElem?_eq_some_iff.1 hx).1
          dsimp only
          rw [decide_eq_true (by omega), cond_true, w64_succ' (by omega), getI_nat', hx]
          cases b <;> rfl
        · dsimp only
          rw [decide_eq_false (by omega)]; rfl
      obtain ⟨l1, hs1, hl1⟩ := hstep
      rw [whileM, hs1]
      simp only [Option.bind_some, Sum.elim_inl]
      obtain ⟨l', p', hw, a1, a2, a3⟩ := ih l1 (p + 1 + 1) F' (by omega) (by omega) (by omega) (by omega) (by omega)
      exact ⟨l', p', hw, by omega, by omega, a3⟩
  obtain ⟨k, rfl⟩ := Int.eq_ofNat_of_zero_le n0
  obtain ⟨l', p', hw, a1, a2, a3⟩ := key k [] (r.p_ + 1) F (by omega) (by omega) (by omega) (by simp) (by omega)
  rw [hw]
  exact ⟨l', p', rfl, by omega, by omega, a3⟩
theorem drawTop_ok (F : Nat) (code : List UInt8) (hF : 2000 < F) : ∃ lists, ∃ most : Nat, M.spec_DrawTopMerge F code = some (lists, (most : Int)) ∧ lists.length ≤ 9 ∧ ∀ l ∈ lists, l.length ≤ 100 := by
  unfold M.spec_DrawTopMerge
  obtain ⟨r, hr, h1, h2⟩ := open_ok F code
  rw [hr, Option.bind_some]
  obtain ⟨hits, p, hh, p0, p1, hl⟩ := hits_ok F r h1 (by omega) (by omega) hF
  rw [hh, Option.bind_some]
  dsimp only
  generalize hf : (fun (s59 : (List (List GHit)) × Int × GL30Rd) => _ : (List (List GHit)) × Int × GL30Rd → Option (((List (List GHit)) × Int × GL30Rd) ⊕ ((List (List GHit)) × GL30Rd))) = f
  obtain ⟨t, ht, ls, q, rfl, q0, q1, q2, q3⟩ := whileM_run (f := f) (Post := fun t => ∃ ls q, t = (ls, ⟨r.b_, q⟩) ∧ p ≤ q ∧ q ≤ p + 300 ∧ ls.length ≤ 9 ∧ ∀ l ∈ ls, l.length ≤ 100) (fun (i : Nat) s => ∃ ls q, s = (ls, (i : Int), ⟨r.b_, q⟩) ∧ p ≤ q ∧ q ≤ p + 100 * i ∧ ls.length ≤ i ∧ ∀ l ∈ ls, l.length ≤ 100) 3 (fun i s hi hs => by
    obtain ⟨ls, q, rfl, q0, q1, q2, q3⟩ := hs
    subst hf
    dsimp only
    rw [decide_eq_true (by omega), cond_true]
    generalize hg : (fun (s104 : (List GHit) × Int × GL30Rd) => _ : (List GHit) × Int × GL30Rd → Option (((List GHit) × Int × GL30Rd) ⊕ ((List GHit) × GL30Rd))) = g
    obtain ⟨t, ht, l', q', rfl, a0, a1, a2⟩ := whileM_run (f := g) (Post := fun t => ∃ l q', t = (l, ⟨r.b_, q'⟩) ∧ q ≤ q' ∧ q' ≤ q + 50 ∧ l.length ≤ 10) (fun (j : Nat) s => ∃ l q', s = (l, (j : Int), ⟨r.b_, q'⟩) ∧ q ≤ q' ∧ q' ≤ q + j ∧ l.length ≤ j) hits.length (fun j s hj hs => by
      obtain ⟨l, q', rfl, a0, a1, a2⟩ := hs
      subst hg
      dsimp only
      rw [decide_eq_true (by omega), cond_true, getI_at hj, Option.bind_some]
      have hrem : ∃ z, remI hits[j].Doc 3 = some z := ⟨_, by unfold remI; rw [if_neg (by decide)]⟩
      obtain ⟨z, hz⟩ := hrem
      obtain ⟨a, ha, _, _⟩ := pick_ok F ⟨r.b_, q'⟩ 30 ⟨h1, by simp only; omega, by simp only; omega⟩
      have ho : ∃ b q2, (cond (z == (i : Int)) (some (true, (⟨r.b_, q'⟩ : GL30Rd))) (Option.bind (M.spec_l30Rd_pick F ⟨r.b_, q'⟩ 30) fun r157 => some ((r157.1 == (0 : Int)), r157.2)) : Option (Bool × GL30Rd)) = some (b, ⟨r.b_, q2⟩) ∧ q' ≤ q2 ∧ q2 ≤ q' + 1 := by
        cases z == (i : Int) with
        | true => exact ⟨true, q', rfl, by omega, by omega⟩
        | false =>
          rw [cond_false, ha]
          exact ⟨_, q' + 1, rfl, by omega, by omega⟩
      obtain ⟨b, q2, ho, b0, b1⟩ := ho
      rw [hz, Option.bind_some, ho, Option.bind_some, Option.bind_some, w64_succ' (by omega), catLok (by simp only [List.length_singleton]; omega)]
      cases b with
      | true => exact .inl ⟨_, rfl, _, _, rfl, by omega, by omega, by simp only [List.length_append, List.length_singleton]; omega⟩
      | false => exact .inl ⟨_, rfl, _, _, rfl, by omega, by omega, by omega⟩) (fun s hs => by
      obtain ⟨l, q', rfl, a0, a1, a2⟩ := hs
      subst hg
      dsimp only
      rw [decide_eq_false (by omega)]
      exact ⟨_, rfl, _, _, rfl, by omega, by omega, by omega⟩) hits.length 0 (([] : List GHit), (0 : Int), ⟨r.b_, q⟩) F (by omega) (by omega) ⟨[], q, rfl, by omega, by omega, by simp⟩
    rw [ht, Option.bind_some, Option.bind_some, catLok (by simp only [List.length_singleton]; omega), Option.bind_some, w64_succ' (by omega)]
    exact .inl ⟨_, rfl, _, _, rfl, by omega, by omega, by simp only [List.length_append, List.length_singleton]; omega, fun x hx => by
      rcases List.mem_append.1 hx with h | h
      · exact q3 x h
      · rw [List.mem_singleton.1 h]; simp only; omega⟩) (fun s hs => by
    obtain ⟨ls, q, rfl, q0, q1, q2, q3⟩ := hs
    subst hf
    dsimp only
    exact ⟨_, rfl, _, _, rfl, by omega, by omega, by omega, q3⟩) 3 0 (([] : List (List GHit)), (0 : Int), ⟨r.b_, p⟩) F (by omega) (by omega) ⟨[], p, rfl, by omega, by omega, by simp, by simp⟩
  rw [ht, Option.bind_some, Option.bind_some]
  dsimp only
  obtain ⟨m, hm, ho⟩ := one_ok F ⟨r.b_, q⟩ [1, 2, 16, 0] ⟨h1, by simp only; omega, by simp only; omega⟩ (by simp)
  rw [ho, Option.bind_some]
  have hm0 : 0 ≤ m := by
    simp only [List.mem_cons, List.not_mem_nil, or_false] at hm
    omega
  obtain ⟨k, rfl⟩ := Int.eq_ofNat_of_zero_le hm0
  exact ⟨ls, k, rfl, q2, q3⟩

/-! ## the law -/
def sameH (a b : GHit) : Bool := a.Doc == b.Doc && a.Points == b.Points
theorem sameH_iff (a b : GHit) : sameH a b = true ↔ a = b := by
  obtain ⟨a, a'⟩ := a
  obtain ⟨b, b'⟩ := b
  unfold sameH
  simp [Bool.and_eq_true]
theorem foHits_self (F : Nat) (l : List GHit) (hl : l.length ≤ 1000) (hF : 2000 < F) : M.laws_foHits F l l = some true := by
  unfold M.laws_foHits
  rw [beq_self_eq_true, Bool.not_true, cond_false, clean0' (n := l.length) F (by omega) (fun i hi => ?_) ?_]
  · rfl
  · rw [decide_eq_false (by omega)]; rfl
  · rw [decide_eq_true (by omega), cond_true, getI_at hi, Option.bind_some, Option.bind_some, beq_self_eq_true, beq_self_eq_true, w64_succ' (by omega)]; rfl
theorem sum_le : ∀ (ls : List (List GHit)) (q : GHit → Bool), (ls.map fun l => (l.filter q).length).sum = (ls.flatten.filter q).length
  | [], q => rfl
  | l :: ls, q => by rw [List.map_cons, List.sum_cons, List.flatten_cons, List.filter_append, List.length_append, sum_le ls q]
theorem sum_one : ∀ (l : List GHit) (q : GHit → Bool), (l.map fun h => if q h then 1 else 0).sum = (l.filter q).length
  | [], q => rfl
  | a :: l, q => by
    rw [List.map_cons, List.sum_cons, sum_one l q, List.filter_cons]
    cases q a
    · simp
    · simp; omega
theorem flat_len : ∀ ls : List (List GHit), (∀ l ∈ ls, l.length ≤ 100) → ls.flatten.length ≤ 100 * ls.length
  | [], _ => by simp
  | a :: ls, h => by
    have := flat_len ls fun l hl => h l (by simp [hl])
    have := h a (by simp)
    rw [List.flatten_cons, List.length_append, List.length_cons]; omega
/-- what the best of lists holds -/
theorem topS_good {lists : List (List GHit)} {m : Nat} (h : topS lists m ≠ []) (hl : ∀ l ∈ lists, l.length ≤ 100) (hn : lists.length ≤ 9) :
    1 ≤ m ∧ m ≤ 16 ∧ (topS lists m).length ≤ m ∧ Hits (topS lists m) ∧ lists.flatten.length ≤ 900 ∧ (lists.flatten.filter fun h => (topS lists m).any fun g => sameH g h).length = (topS lists m).length ∧
      ∀ h ∈ lists.flatten, ((topS lists m).any fun g => sameH g h) = false → (topS lists m).length = m ∧ ∀ g ∈ topS lists m, lessH h g = false := by
  have hfl := flat_len lists hl
  unfold topS at *
  split at h
  · rename_i hc
    rw [if_pos hc]
    simp only [Bool.and_eq_true, decide_eq_true_iff] at hc
    cases hm : mergeL lists [] with
    | none => rw [hm] at h; exact absurd rfl h
    | some all =>
      rw [hm] at h
      simp only at h ⊢
      obtain ⟨he, hp, hr⟩ := mergeL_spec hm List.Pairwise.nil (by simp)
      rw [List.nil_append] at he
      subst he
      have hnd := nodup_docs hp
      obtain ⟨s1, s2, s3⟩ := sortH_spec hnd
      have hsnd : (sortH lists.flatten).Nodup := s1.imp fun {a b} hab e => by rw [e, lessH_irrefl] at hab; cases hab
      have hsub : ∀ x ∈ (sortH lists.flatten).take m, x ∈ lists.flatten := fun x hx => (s2 x).1 (List.mem_of_mem_take hx)
      have hmem : ∀ h, ((sortH lists.flatten).take m).any (fun g => sameH g h) = true ↔ h ∈ (sortH lists.flatten).take m := fun h => by
        rw [List.any_eq_true]
        constructor
        · rintro ⟨g, hg, e⟩; rw [← (sameH_iff g h).1 e]; exact hg
        · intro hh; exact ⟨h, hh, (sameH_iff h h).2 rfl⟩
      refine ⟨by omega, by omega, by rw [List.length_take]; omega, ⟨fun x hx => hr x (hsub x hx), s1.sublist (List.take_sublist _ _), ?_, by rw [List.length_take]; omega⟩, by omega, ?_, fun h hh hno => ?_⟩
      · rw [List.pairwise_iff_getElem]
        intro i j hi hj hij e
        have h1 := hsub _ (List.getElem_mem hi)
        have h2 := hsub _ (List.getElem_mem hj)
        have hne : ((sortH lists.flatten).take m)[i] ≠ ((sortH lists.flatten).take m)[j] := List.pairwise_iff_getElem.1 (hsnd.sublist (List.take_sublist _ _)) i j hi hj hij
        obtain ⟨a, ha, ea⟩ := List.mem_iff_getElem.1 h1
        obtain ⟨b, hb, eb⟩ := List.mem_iff_getElem.1 h2
        rw [← ea, ← eb] at e hne
        rcases Nat.lt_trichotomy a b with q | q | q
        · exact List.pairwise_iff_getElem.1 hp a b ha hb q e
        · subst q; exact hne rfl
        · exact List.pairwise_iff_getElem.1 hp b a hb ha q e.symm
      · refine List.Perm.length_eq ((List.perm_ext_iff_of_nodup (hnd.filter _) (hsnd.sublist (List.take_sublist _ _))).2 fun x => ?_)
        rw [List.mem_filter, hmem]
        exact ⟨fun q => q.2, fun q => ⟨hsub x q, q⟩⟩
      · have hnot : ¬ h ∈ (sortH lists.flatten).take m := fun q => by rw [(hmem h).2 q] at hno; cases hno
        have hin : h ∈ sortH lists.flatten := (s2 h).2 hh
        rw [← List.take_append_drop m (sortH lists.flatten)] at hin
        have hd := (List.mem_append.1 hin).resolve_left hnot
        have hlen : m < (sortH lists.flatten).length := by
          have := List.length_pos_of_mem hd
          rw [List.length_drop] at this; omega
        refine ⟨by rw [List.length_take]; omega, fun g hg => ?_⟩
        have hs1 := s1
        rw [← List.take_append_drop m (sortH lists.flatten)] at hs1
        exact lessH_asymm ((List.pairwise_append.1 hs1).2.2 g hg h hd)
  · exact absurd rfl h
theorem law_top (code : List UInt8) : ∃ F, M.laws_FnTopMerge F code = some true := by
  refine ⟨5000, ?_⟩
  generalize hF : 5000 = F
  unfold M.laws_FnTopMerge
  cases decide ((1048576 : Int) < (code.length : Int))
  case true => rfl
  obtain ⟨lists, m, hw, hn, hl⟩ := drawTop_ok F code (by omega)
  rw [cond_false, hw, Option.bind_some]
  dsimp only
  have hfl := flat_len lists hl
  have hlx : (topS lists m).length ≤ 1000 := by
    by_cases h : topS lists m = []
    · rw [h]; simp
    · have := topS_good h hl hn; omega
  have hfo := foHits_self F (topS lists m) hlx (by omega)
  rw [implTop F lists m hl hn, Option.bind_some, specTop F lists m hl hn (by omega), Option.bind_some, hfo, Option.bind_some, Bool.not_true, cond_false, Option.bind_some, Option.bind_some, hfo]
  by_cases h : topS lists m = []
  · rw [h]; rfl
  · obtain ⟨g1, g2, g3, g4, g5, g6, g7⟩ := topS_good h hl hn
    have hpos := List.length_pos_iff.2 h
    have hh := implHits F (topS lists m) (by omega)
    rw [(hits_iff _).2 g4] at hh
    generalize topS lists m = x at *
    rw [beq_eq_false_iff_ne.2 (show ((x.length : Nat) : Int) ≠ 0 by omega), cond_false]
    have hsum := sum_le lists fun h => x.any fun g => sameH g h
    have key : ∀ f : Int × Int → Option ((Int × Int) ⊕ (Int ⊕ Bool)), (∀ (i n : Nat) l, lists[i]? = some l → n + (l.filter fun h => x.any fun g => sameH g h).length ≤ 10000 → f ((n : Int), (i : Int)) = some (.inl (((n + (l.filter fun h => x.any fun g => sameH g h).length : Nat) : Int), ((i + 1 : Nat) : Int)))) →
        (∀ n : Nat, f ((n : Int), (lists.length : Int)) = some (.inr (.inl (n : Int)))) → whileM f F ((0 : Int), (0 : Int)) = some (.inl (x.length : Int)) := fun f h h0 => by
      have := sum_while (w := fun l : List GHit => (l.filter fun h => x.any fun g => sameH g h).length) h h0 lists.length 0 0 F (by omega) (by omega) (by rw [List.drop_zero, hsum]; omega)
      rw [List.drop_zero, hsum, g6, Nat.zero_add] at this
      exact this
    rw [key _ (fun i n l hx hb => ?_) (fun n => ?_)]
    · simp only [Option.bind_some, Sum.elim_inl]
      rw [hh, Option.bind_some, cond_true, beq_self_eq_true, cond_true, decide_eq_true (by omega)]
    · have hi := (List.getElem?_eq_some_iff.1 hx).1
      have hll := hl l (List.mem_of_getElem? hx)
      dsimp only
      rw [decide_eq_true (by omega), cond_true]
      have hgl : getI lists (i : Int) = some l := by rw [getI_nat', hx]
      simp only [hgl, Option.bind_some]
      have hone := sum_one l fun h => x.any fun g => sameH g h
      have key2 : ∀ f : Int × Int → Option ((Int × Int) ⊕ (Int ⊕ Bool)), (∀ (j n : Nat) h, l[j]? = some h → n + (if (x.any fun g => sameH g h) then 1 else 0) ≤ 10000 → f ((n : Int), (j : Int)) = some (.inl (((n + (if (x.any fun g => sameH g h) then 1 else 0) : Nat) : Int), ((j + 1 : Nat) : Int)))) →
          (∀ n : Nat, f ((n : Int), (l.length : Int)) = some (.inr (.inl (n : Int)))) → whileM f F ((n : Int), (0 : Int)) = some (.inl ((n + (l.filter fun h => x.any fun g => sameH g h).length : Nat) : Int)) := fun f h h0 => by
        have := sum_while (w := fun h : GHit => if (x.any fun g => sameH g h) then 1 else 0) h h0 l.length 0 n F (by omega) (by omega) (by rw [List.drop_zero, hone]; omega)
        rw [List.drop_zero, hone] at this
        exact this
      rw [key2 _ (fun j n' y hy hb' => ?_) (fun n' => ?_)]
      · simp only [Option.bind_some, Sum.elim_inl]
        rw [w64_succ' (by omega)]
      · have hj := (List.getElem?_eq_some_iff.1 hy).1
        have hym : y ∈ lists.flatten := List.mem_flatten.2 ⟨l, List.mem_of_getElem? hx, List.mem_of_getElem? hy⟩
        dsimp only
        rw [decide_eq_true (by omega), cond_true, getI_nat', hy, Option.bind_some, flag0 (p := fun g : GHit => sameH g y) (xs := x) F (by omega) (fun k z b hz => ?_) (fun b => ?_), Option.bind_some, Option.bind_some, w64_succ' (by omega), w64_succ' (by omega)]
        · cases hq : x.any fun g => sameH g y with
          | true => rfl
          | false =>
            obtain ⟨u1, u2⟩ := g7 y hym hq
            rw [cond_false, decide_eq_false (by omega), cond_false, w64_pred (by omega) (by omega), getI_at (by omega), Option.bind_some, ahead_ok, Option.bind_some, Option.bind_some, u2 _ (List.getElem_mem _)]
            rfl
        · have hk := (List.getElem?_eq_some_iff.1 hz).1
          dsimp only
          rw [decide_eq_true (by omega), cond_true, w64_succ' (by omega), getI_nat', hz]
          cases b <;> rfl
        · dsimp only
          rw [decide_eq_false (by omega)]; rfl
      · dsimp only
        rw [decide_eq_false (by omega)]; rfl
    · dsimp only
      rw [decide_eq_false (by omega)]; rfl
end Go.Fk
