/-
  The reference's best of lists, the drawing, and the law. Of no program.
-/
import Derived.Test.YtajfhpaokbgmeaaLawTop
import Derived.Test.YtajfhpaokbgmeaaLawRdOne
namespace Go.Fk
open Go

theorem st_while {α σ τ : Type} {xs : List α} {p : α → Bool} {st : Nat → σ} {good bad : τ} {f : σ → Option (σ ⊕ τ)} (h : ∀ i x, xs[i]? = some x → f (st i) = some (if p x then .inl (st (i + 1)) else .inr bad))
    (h0 : f (st xs.length) = some (.inr good)) : ∀ k i F, i + k = xs.length → k < F → whileM f F (st i) = some (if (xs.drop i).all p then good else bad)
  | 0, i, F, e, hF => by
    obtain ⟨F, rfl⟩ : ∃ G, F = G + 1 := ⟨F - 1, by omega⟩
    rw [whileM, show i = xs.length by omega, h0, List.drop_eq_nil_of_le (by omega)]; rfl
  | k + 1, i, F, e, hF => by
    obtain ⟨F, rfl⟩ : ∃ G, F = G + 1 := ⟨F - 1, by omega⟩
    have hi : i < xs.length := by omega
    rw [whileM, h i xs[i] (List.getElem?_eq_getElem hi), List.drop_eq_getElem_cons hi, List.all_cons]
    cases hp : p xs[i]
    · rfl
    · simp only [Bool.true_and]
      exact st_while h h0 k (i + 1) F (by omega) (by omega)
theorem flag_while {α : Type} {p : α → Bool} {xs : List α} {f : Bool × Int → Option ((Bool × Int) ⊕ Bool)} (h : ∀ (i : Nat) x b, xs[i]? = some x → f (b, (i : Int)) = some (.inl (b || p x, ((i + 1 : Nat) : Int))))
    (h0 : ∀ b, f (b, (xs.length : Int)) = some (.inr b)) : ∀ (k i F : Nat) (b : Bool), i + k = xs.length → k < F → whileM f F (b, (i : Int)) = some (b || (xs.drop i).any p)
  | 0, i, F, b, e, hF => by
    obtain ⟨F, rfl⟩ : ∃ G, F = G + 1 := ⟨F - 1, by omega⟩
    rw [whileM, show i = xs.length by omega, h0, List.drop_eq_nil_of_le (by omega)]
    simp
  | k + 1, i, F, b, e, hF => by
    obtain ⟨F, rfl⟩ : ∃ G, F = G + 1 := ⟨F - 1, by omega⟩
    have hi : i < xs.length := by omega
    rw [whileM, h i xs[i] b (List.getElem?_eq_getElem hi), List.drop_eq_getElem_cons hi, List.any_cons]
    simp only [Option.bind_some, Sum.elim_inl]
    rw [flag_while h h0 k (i + 1) F _ (by omega) (by omega), Bool.or_assoc]
theorem flag0 {α : Type} {p : α → Bool} {xs : List α} {f : Bool × Int → Option ((Bool × Int) ⊕ Bool)} (F : Nat) (hF : xs.length < F) (h : ∀ (i : Nat) x b, xs[i]? = some x → f (b, (i : Int)) = some (.inl (b || p x, ((i + 1 : Nat) : Int))))
    (h0 : ∀ b, f (b, (xs.length : Int)) = some (.inr b)) : whileM f F (false, (0 : Int)) = some (xs.any p) := by
  have := flag_while h h0 xs.length 0 F false (by omega) hF
  rwa [List.drop_zero, Bool.false_or] at this
theorem sum_while {α : Type} {w : α → Nat} {xs : List α} {f : Int × Int → Option ((Int × Int) ⊕ (Int ⊕ Bool))} (h : ∀ (i n : Nat) x, xs[i]? = some x → n + w x ≤ 10000 → f ((n : Int), (i : Int)) = some (.inl (((n + w x : Nat) : Int), ((i + 1 : Nat) : Int))))
    (h0 : ∀ n : Nat, f ((n : Int), (xs.length : Int)) = some (.inr (.inl (n : Int)))) : ∀ (k i n F : Nat), i + k = xs.length → k < F → n + ((xs.drop i).map w).sum ≤ 10000 → whileM f F ((n : Int), (i : Int)) = some (.inl ((n + ((xs.drop i).map w).sum : Nat) : Int))
  | 0, i, n, F, e, hF, hb => by
    obtain ⟨F, rfl⟩ : ∃ G, F = G + 1 := ⟨F - 1, by omega⟩
    rw [whileM, show i = xs.length by omega, h0, List.drop_eq_nil_of_le (by omega)]; rfl
  | k + 1, i, n, F, e, hF, hb => by
    obtain ⟨F, rfl⟩ : ∃ G, F = G + 1 := ⟨F - 1, by omega⟩
    have hi : i < xs.length := by omega
    rw [List.drop_eq_getElem_cons hi, List.map_cons, List.sum_cons] at hb ⊢
    rw [whileM, h i n xs[i] (List.getElem?_eq_getElem hi) (by omega)]
    simp only [Option.bind_some, Sum.elim_inl]
    rw [sum_while h h0 k (i + 1) _ F (by omega) (by omega) (by omega)]
    congr 3; omega

/-! ## the reference -/
def stS (m : Nat) (acc : List GHit) (i : Nat) : List GHit × List Int × Int := ((sortH acc).take m, acc.map (·.Doc), (i : Int))
theorem sortH_snoc (acc : List GHit) (h : GHit) : sortH (acc ++ [h]) = insH h (sortH acc) := by
  unfold sortH
  rw [List.foldl_append]; rfl
theorem fold_len : ∀ (l acc : List GHit), (l.foldl (fun acc h => insH h acc) acc).length = acc.length + l.length
  | [], acc => by simp
  | a :: l, acc => by rw [List.foldl_cons, fold_len l, insH_len, List.length_cons]; omega
theorem sortH_len (l : List GHit) : (sortH l).length = l.length := by
  unfold sortH
  rw [fold_len]; simp
theorem has_ok (F : Nat) (l : List GHit) (id : Int) (hl : l.length < 100000) (hF : l.length < F) : M.spec_l8Has F (l.map (·.Doc)) id = some (docIn l id) := by
  unfold M.spec_l8Has docIn
  have hw : ∀ (f : Int → Option (Int ⊕ (Unit ⊕ Bool))), (∀ i x, l[i]? = some x → f ((i : Nat) : Int) = some (if !(x.Doc == id) then .inl ((i + 1 : Nat) : Int) else .inr (.inr true))) → f (l.length : Int) = some (.inr (.inl ())) → whileM f F (0 : Int) = some (if l.all (fun x => !(x.Doc == id)) then .inl () else .inr true) := fun f h h0 => by
    have := st_while (st := fun i : Nat => (i : Int)) (p := fun x : GHit => !(x.Doc == id)) h h0 l.length 0 F (by omega) hF
    rwa [List.drop_zero] at this
  rw [hw _ (fun i x hx => ?_) ?_, ← List.not_any_eq_all_not]
  · cases l.any (fun x => x.Doc == id) <;> rfl
  · rw [List.length_map, decide_eq_false (by omega)]; rfl
  · have hi := (List.getElem?_eq_some_iff.1 hx).1
    rw [List.length_map, decide_eq_true (by omega), cond_true, getI_nat', List.getElem?_map, hx, Option.map_some, Option.bind_some, w64_succ' (by omega)]
    cases x.Doc == id <;> rfl
theorem specMerge_from {m : Nat} {lists : List (List GHit)} {f : List GHit × List Int × Int → Option ((List GHit × List Int × Int) ⊕ (List GHit ⊕ List GHit))} (hl : ∀ l ∈ lists, l.length ≤ 100)
    (h : ∀ i l acc, lists[i]? = some l → acc.length ≤ 100 * i → f (stS m acc i) = some (if hitsS l && apartS acc l then .inl (stS m (acc ++ l) (i + 1)) else .inr (.inr [])))
    (h0 : ∀ acc, f (stS m acc lists.length) = some (.inr (.inl ((sortH acc).take m)))) :
    ∀ k i acc F, i + k = lists.length → acc.length ≤ 100 * i → k < F → whileM f F (stS m acc i) = some (match mergeL (lists.drop i) acc with | some a => .inl ((sortH a).take m) | none => .inr [])
  | 0, i, acc, F, e, _, hF => by
    obtain ⟨F, rfl⟩ : ∃ G, F = G + 1 := ⟨F - 1, by omega⟩
    rw [whileM, show i = lists.length by omega, h0, List.drop_eq_nil_of_le (by omega)]; rfl
  | k + 1, i, acc, F, e, ha, hF => by
    obtain ⟨F, rfl⟩ : ∃ G, F = G + 1 := ⟨F - 1, by omega⟩
    have hi : i < lists.length := by omega
    have hli := hl lists[i] (List.getElem_mem hi)
    rw [whileM, h i lists[i] acc (List.getElem?_eq_getElem hi) ha, List.drop_eq_getElem_cons hi, mergeL]
    cases hitsS lists[i] && apartS acc lists[i] with
    | false => simp
    | true =>
      simp only [if_true, Option.bind_some, Sum.elim_inl]
      exact specMerge_from hl h h0 k (i + 1) (acc ++ lists[i]) F (by omega) (by simp only [List.length_append]; omega) (by omega)
theorem docIn_append (a b : List GHit) (id : Int) : docIn (a ++ b) id = (docIn a id || docIn b id) := by
  unfold docIn
  rw [List.any_append]
theorem specTop (F : Nat) (lists : List (List GHit)) (most : Nat) (hl : ∀ l ∈ lists, l.length ≤ 100) (hn : lists.length ≤ 9) (hF : 2000 < F) : M.spec_TopMerge F lists (most : Int) = some (topS lists most) := by
  unfold M.spec_TopMerge topS
  rw [inS, Option.bind_some]
  cases (decide (1 ≤ (most : Int)) && decide ((most : Int) ≤ 16)) with
  | false => rfl
  | true =>
    rw [Bool.not_true, cond_false, dec_gt (lists.length : Int) 4, Option.bind_some]
    cases decide ((lists.length : Int) ≤ 4) with
    | false => rfl
    | true =>
      rw [Bool.not_true, cond_false]
      have hw : ∀ (f : List GHit × List Int × Int → Option ((List GHit × List Int × Int) ⊕ (List GHit ⊕ List GHit))), (∀ i l acc, lists[i]? = some l → acc.length ≤ 100 * i → f (stS most acc i) = some (if hitsS l && apartS acc l then .inl (stS most (acc ++ l) (i + 1)) else .inr (.inr []))) →
          (∀ acc, f (stS most acc lists.length) = some (.inr (.inl ((sortH acc).take most)))) → whileM f F (([] : List GHit), ([] : List Int), (0 : Int)) = some (match mergeL lists [] with | some a => .inl ((sortH a).take most) | none => .inr []) := fun f h h0 => by
        have := specMerge_from hl h h0 lists.length 0 [] F (by omega) (by simp) (by omega)
        rw [List.drop_zero] at this
        have e : stS most [] 0 = (([] : List GHit), ([] : List Int), (0 : Int)) := by simp [stS, sortH]
        rwa [e] at this
      rw [hw _ (fun i l acc hx ha => ?_) (fun acc => ?_)]
      · cases mergeL lists [] <;> rfl
      · have hli := hl l (List.mem_of_getElem? hx)
        have hi := (List.getElem?_eq_some_iff.1 hx).1
        show cond (decide ((i : Int) < (lists.length : Int))) (Option.bind (getI lists (i : Int)) _) _ = _
        rw [decide_eq_true (by omega), cond_true, getI_nat', hx, Option.bind_some, specHits F l (by omega) hF, Option.bind_some]
        cases hh : hitsS l with
        | false => rfl
        | true =>
          have hd := ((hits_iff l).1 hh).docs
          rw [Bool.not_true, cond_false]
          have hin : ∀ (f : List GHit × List Int × Int → Option ((List GHit × List Int × Int) ⊕ ((List GHit × List Int) ⊕ List GHit))), (∀ k x, l[k]? = some x → f (stS most (acc ++ l.take k) k) = some (if !docIn acc x.Doc then .inl (stS most (acc ++ l.take (k + 1)) (k + 1)) else .inr (.inr []))) →
              f (stS most (acc ++ l.take l.length) l.length) = some (.inr (.inl ((sortH (acc ++ l)).take most, (acc ++ l).map (·.Doc)))) → whileM f F ((stS most acc i).1, (stS most acc i).2.1, (0 : Int)) = some (if apartS acc l then .inl ((sortH (acc ++ l)).take most, (acc ++ l).map (·.Doc)) else .inr []) := fun f h h0 => by
            have := st_while (st := fun k => stS most (acc ++ l.take k) k) h h0 l.length 0 F (by omega) (by omega)
            rw [List.drop_zero, List.take_zero, List.append_nil] at this
            exact this
          rw [hin _ (fun k x hk => ?_) ?_]
          · cases apartS acc l with
            | false => rfl
            | true =>
              simp only [if_true, Option.bind_some, Sum.elim_inl, Bool.and_self]
              rw [show (stS most acc i).2.2 = (i : Int) from rfl, w64_succ' (by omega)]; rfl
          · show Option.bind (getI lists (i : Int)) _ = _
            rw [getI_nat', hx, Option.bind_some]
            show cond (decide ((l.length : Int) < (l.length : Int))) _ _ = _
            rw [decide_eq_false (by omega), cond_false, List.take_length]; rfl
          · have hkl := (List.getElem?_eq_some_iff.1 hk).1
            have hkv := (List.getElem?_eq_some_iff.1 hk).2
            have htl : (acc ++ l.take k).length ≤ 1000 := by simp; omega
            have hgl : getI lists (stS most acc i).2.2 = some l := by
              show getI lists (i : Int) = _
              rw [getI_nat', hx]
            have hgk : getI l (stS most (acc ++ l.take k) k).2.2 = some x := by
              show getI l (k : Int) = _
              rw [getI_nat', hk]
            have hlt : decide ((stS most (acc ++ l.take k) k).2.2 < (l.length : Int)) = true := decide_eq_true (by show (k : Int) < _; omega)
            simp only [hgl, hgk, Option.bind_some, hlt, cond_true]
            show Option.bind (M.spec_l8Has F ((acc ++ l.take k).map (·.Doc)) x.Doc) _ = _
            have hno : docIn (l.take k) x.Doc = false := by
              unfold docIn
              rw [List.any_eq_false]
              intro y hy
              obtain ⟨j, hj⟩ := List.mem_iff_getElem?.1 hy
              have hj1 := (List.getElem?_eq_some_iff.1 hj).1
              rw [List.length_take] at hj1
              rw [List.getElem?_take, if_pos (by omega)] at hj
              have hj2 := (List.getElem?_eq_some_iff.1 hj).2
              have := List.pairwise_iff_getElem.1 hd j k (by omega) hkl (by omega)
              rw [hj2, hkv] at this
              simpa using this
            rw [has_ok F _ _ (by omega) (by omega), Option.bind_some, docIn_append, hno, Bool.or_false]
            cases docIn acc x.Doc with
            | true => rfl
            | false =>
              rw [cond_false]
              show Option.bind (catL 8 ((acc ++ l.take k).map (·.Doc)) [x.Doc]) _ = _
              rw [catLok (by simp only [List.length_map, List.length_singleton]; omega), Option.bind_some]
              show Option.bind (M.spec_l13Push F ((sortH (acc ++ l.take k)).take most) x (most : Int)) _ = _
              rw [push_ok F _ x most (by have := sortH_len (acc ++ l.take k); simp only [List.length_take]; omega) hF, take_insH, ← sortH_snoc, Option.bind_some, show (stS most (acc ++ l.take k) k).2.2 = (k : Int) from rfl, w64_succ' (by omega), List.append_assoc]
              have ek : l.take k ++ [x] = l.take (k + 1) := by rw [← hkv, List.take_succ_eq_append_getElem hkl]
              rw [ek]
              simp only [Bool.not_false, if_true]
              unfold stS
              rw [← ek]
              simp
      · show cond (decide ((lists.length : Int) < (lists.length : Int))) _ _ = _
        rw [decide_eq_false (by omega)]; rfl
end Go.Fk
