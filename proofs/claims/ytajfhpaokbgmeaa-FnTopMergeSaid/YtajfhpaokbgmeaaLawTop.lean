/-
  The best of lists: the program's and the reference's are the plain one. Of no program.
-/
import Derived.Test.YtajfhpaokbgmeaaLawHits
namespace Go.Fk
open Go

def docIn (l : List GHit) (id : Int) : Bool := l.any fun h => h.Doc == id
theorem hasDoc_ok (F : Nat) (l : List GHit) (id : Int) : M.impl_hasDoc F l id = some (docIn l id) := by
  unfold M.impl_hasDoc M.slices_ContainsFunc_Hit__impl_hasDoc_1 M.slices_IndexFunc_Hit__impl_hasDoc_1 docIn
  have key : ∀ (f : Nat → Unit → Option (Unit ⊕ Int)), (∀ i x, l[i]? = some x → f i () = some (if x.Doc == id then .inr ((i : Nat) : Int) else .inl ())) → ∀ k i, i + k = l.length →
      ∃ r, forFrom f k i () = some r ∧ (match r with | .inl _ => (l.drop i).any (fun h => h.Doc == id) = false | .inr z => 0 ≤ z ∧ (l.drop i).any (fun h => h.Doc == id) = true) := by
    intro f hf k
    induction k with
    | zero =>
      intro i e
      refine ⟨.inl (), rfl, ?_⟩
      rw [List.drop_eq_nil_of_le (by omega)]; rfl
    | succ k ih =>
      intro i e
      have hi : i < l.length := by omega
      rw [forFrom, hf i l[i] (List.getElem?_eq_getElem hi), List.drop_eq_getElem_cons hi, List.any_cons]
      cases h : l[i].Doc == id with
      | true => exact ⟨.inr (i : Int), rfl, by simp⟩
      | false =>
        obtain ⟨r, h1, h2⟩ := ih (i + 1) (by omega)
        refine ⟨r, ?_, ?_⟩
        · simpa using h1
        · simpa using h2
  obtain ⟨r, h1, h2⟩ := key (fun (i : Nat) (_ : Unit) => Option.bind (getI l (i : Int)) fun x => Option.bind (M.impl_hasDoc_1 F x id) fun b => cond b (some (.inr (i : Int))) (some (.inl ()))) (fun i x hx => by
    show Option.bind _ _ = _
    rw [getI_nat', hx, Option.bind_some]
    unfold M.impl_hasDoc_1
    rw [Option.bind_some]
    cases x.Doc == id <;> rfl) l.length 0 (by omega)
  rw [List.drop_zero] at h2
  rw [h1]
  cases r with
  | inl u =>
    simp only at h2
    rw [h2]; rfl
  | inr z =>
    simp only at h2
    rw [h2.2]
    simp [h2.1]
def hitP (l : List GHit) (q : GHit × Nat) : Bool :=
  (decide (1 ≤ q.1.Doc) && decide (q.1.Doc ≤ 9999)) && (!decide (q.1.Points < 1) && (!docIn (l.take q.2) q.1.Doc && (decide (q.2 = 0) || ((l[q.2 - 1]?).elim true fun g => lessH g q.1))))
def hitsS (l : List GHit) : Bool := l.zipIdx.all (hitP l) && decide ((l.length : Int) ≤ 16)
theorem subL_take {α : Type} {l : List α} {i : Nat} (h : i ≤ l.length) : subL l 0 (i : Int) = some (l.take i) := by
  unfold subL
  rw [if_pos ⟨by omega, by omega, by omega⟩]
  simp
theorem implHits (F : Nat) (l : List GHit) (hl : l.length ≤ 1000000) : M.impl_HitsOk F l = some (hitsS l) := by
  unfold M.impl_HitsOk hitsS
  have hz : l.length = l.zipIdx.length := by simp
  rw [all_from (p := hitP l) (xs := l.zipIdx) (fun i q hq => ?_) l.length 0 (by omega), List.drop_zero]
  · cases l.zipIdx.all (hitP l) <;> rfl
  · obtain ⟨hx, hi⟩ := zipAt hq
    have hlt := (List.getElem?_eq_some_iff.1 hx).1
    rw [getI_nat', hx, Option.bind_some, withinS, Option.bind_some]
    unfold hitP
    rw [hi]
    cases (decide (1 ≤ q.1.Doc) && decide (q.1.Doc ≤ 9999)) with
    | false => rfl
    | true =>
      rw [Bool.not_true, cond_false]
      cases decide (q.1.Points < 1) with
      | true => rfl
      | false =>
        rw [cond_false, subL_take (by omega), Option.bind_some, hasDoc_ok, Option.bind_some]
        cases docIn (l.take i) q.1.Doc with
        | true => rfl
        | false =>
          rw [cond_false]
          by_cases h0 : i = 0
          · subst h0; rfl
          · rw [decide_eq_true (show (0 : Int) < (i : Int) by omega), cond_true, w64_pred (by omega) (by omega), getI_nat', List.getElem?_eq_getElem (show i - 1 < l.length by omega), Option.bind_some, ord_ok, Option.bind_some, ordH_nonneg, decide_eq_false h0]
            simp only [Option.elim_some, Bool.false_or, Option.bind_some]
            cases lessH l[i - 1] q.1 <;> rfl
theorem specHits (F : Nat) (l : List GHit) (hl : l.length ≤ 1000) (hF : 2000 < F) : M.spec_l13Ok F l = some (hitsS l) := by
  unfold M.spec_l13Ok hitsS
  have hz : l.length = l.zipIdx.length := by simp
  have hall : ∀ (f : Int → Option (Int ⊕ (Unit ⊕ Bool))), (∀ (i : Nat) q, l.zipIdx[i]? = some q → f (i : Int) = some (if hitP l q then .inl ((i + 1 : Nat) : Int) else .inr (.inr false))) → f (l.zipIdx.length : Int) = some (.inr (.inl ())) → whileM f F (0 : Int) = some (if l.zipIdx.all (hitP l) then .inl () else .inr false) := fun f h h0 => by
    have := all_while h h0 l.length 0 F (by omega) (by omega)
    rwa [List.drop_zero] at this
  rw [hall _ (fun i q hq => ?_) ?_]
  · cases l.zipIdx.all (hitP l) <;> rfl
  · rw [← hz, decide_eq_false (by omega)]; rfl
  · obtain ⟨hx, hi⟩ := zipAt hq
    have hlt := (List.getElem?_eq_some_iff.1 hx).1
    rw [decide_eq_true (by omega), cond_true, getI_nat', hx, Option.bind_some, inS, Option.bind_some, Option.bind_some, w64_succ' (by omega)]
    unfold hitP
    rw [hi]
    cases (decide (1 ≤ q.1.Doc) && decide (q.1.Doc ≤ 9999)) with
    | false => rfl
    | true =>
      rw [Bool.not_true, cond_false]
      cases decide (q.1.Points < 1) with
      | true => rfl
      | false =>
        rw [cond_false]
        have hin : ∀ (f : Int → Option (Int ⊕ (Unit ⊕ Bool))), (∀ (k : Nat) y, (l.take i)[k]? = some y → f (k : Int) = some (if !(y.Doc == q.1.Doc) then .inl ((k + 1 : Nat) : Int) else .inr (.inr false))) → f ((l.take i).length : Int) = some (.inr (.inl ())) → whileM f F (0 : Int) = some (if (l.take i).all (fun y => !(y.Doc == q.1.Doc)) then .inl () else .inr false) := fun f h h0 => by
          have := all_while h h0 (l.take i).length 0 F (by omega) (by simp; omega)
          rwa [List.drop_zero] at this
        have htl : (l.take i).length = i := by simp; omega
        have hdoc : (l.take i).all (fun y => !(y.Doc == q.1.Doc)) = !docIn (l.take i) q.1.Doc := by
          unfold docIn
          rw [List.not_any_eq_all_not]
        have fin : ∀ b : Bool, (some b : Option Bool).bind (fun o27 => (cond o27 (some (.inr (.inr false))) (Option.bind ((Option.bind (whileM (σ := Int) (τ := (Unit) ⊕ (Bool)) (fun (s125 : Int) => (cond (decide (s125 < (i : Int))) (Option.bind (getI l s125) fun x139 => (Option.bind (some q.1) fun x150 => (cond (x139.Doc == x150.Doc) (some (.inr (.inr false))) (some (.inl (w64 (s125 + (1 : Int)))))))) (some (.inr (.inl ()))))) F (0 : Int)) fun r126 => (r126.elim (fun t170 => (some (.inl ()))) (fun t171 => (some (.inr t171))))) : Option ((Unit) ⊕ (Bool))) fun o117 => o117.elim (fun s120 => (some (.inl ((i + 1 : Nat) : Int)))) (fun t172 => (some (.inr (.inr t172))))) : Option (Int ⊕ (Unit ⊕ Bool)))) =
            some (if (!docIn (l.take i) q.1.Doc && !b) then .inl ((i + 1 : Nat) : Int) else .inr (.inr false)) := fun b => by
          cases b with
          | true => simp
          | false =>
            rw [Option.bind_some, cond_false, hin _ (fun k y hy => ?_) ?_, hdoc]
            · cases docIn (l.take i) q.1.Doc <;> rfl
            · rw [htl, decide_eq_false (by omega)]; rfl
            · have hk := (List.getElem?_eq_some_iff.1 hy).1
              rw [htl] at hk
              rw [List.getElem?_take, if_pos hk] at hy
              rw [decide_eq_true (by omega), cond_true, getI_nat', hy, Option.bind_some, Option.bind_some, w64_succ' (by omega)]
              cases y.Doc == q.1.Doc <;> rfl
        by_cases h0 : i = 0
        · subst h0
          rw [decide_eq_false (show ¬ (0 : Int) < ((0 : Nat) : Int) by omega), cond_false]
          have := fin false
          rw [this]
          simp
        · rw [decide_eq_true (show (0 : Int) < (i : Int) by omega), cond_true, w64_pred (by omega) (by omega), getI_nat', List.getElem?_eq_getElem (show i - 1 < l.length by omega), Option.bind_some, Option.bind_some, specLess, Option.bind_some, fin, decide_eq_false h0]
          simp
structure Hits (l : List GHit) : Prop where
  rng : ∀ h ∈ l, (1 ≤ h.Doc ∧ h.Doc ≤ 9999) ∧ 1 ≤ h.Points
  sorted : SortedH l
  docs : l.Pairwise fun a b => a.Doc ≠ b.Doc
  few : l.length ≤ 16
theorem hits_iff (l : List GHit) : hitsS l = true ↔ Hits l := by
  unfold hitsS
  rw [Bool.and_eq_true, decide_eq_true_iff, List.all_eq_true]
  constructor
  · rintro ⟨h, hl⟩
    have hat : ∀ i, (hi : i < l.length) → hitP l (l[i], i) = true := fun i hi => h (l[i], i) (by
      rw [List.mem_iff_getElem?]
      exact ⟨i, by rw [List.getElem?_zipIdx, List.getElem?_eq_getElem hi]; simp⟩)
    have hat' : ∀ i, (hi : i < l.length) → (1 ≤ l[i].Doc ∧ l[i].Doc ≤ 9999) ∧ 1 ≤ l[i].Points ∧ docIn (l.take i) l[i].Doc = false ∧ (i = 0 ∨ ((l[i - 1]?).elim true fun g => lessH g l[i]) = true) := fun i hi => by
      have := hat i hi
      unfold hitP at this
      simp only [Bool.and_eq_true, Bool.or_eq_true, decide_eq_true_iff, Bool.not_eq_true', decide_eq_false_iff_not] at this
      exact ⟨this.1, by omega, this.2.2.1, this.2.2.2⟩
    have hadj : ∀ l : List GHit, (∀ i, (hi : i + 1 < l.length) → lessH l[i] l[i + 1] = true) → SortedH l := by
      intro l
      induction l with
      | nil => intro _; exact List.Pairwise.nil
      | cons a l ih =>
        intro hl
        have ih' := ih (fun i hi => by have := hl (i + 1) (by simp only [List.length_cons]; omega); simpa using this)
        refine List.pairwise_cons.2 ⟨fun c hc => ?_, ih'⟩
        cases l with
        | nil => cases hc
        | cons b l =>
          have hab : lessH a b = true := hl 0 (by simp)
          rcases List.mem_cons.1 hc with rfl | hc
          · exact hab
          · exact lessH_trans hab ((List.pairwise_cons.1 ih').1 c hc)
    refine ⟨fun x hx => ?_, hadj l fun i hi => ?_, ?_, by omega⟩
    · obtain ⟨i, hi, rfl⟩ := List.mem_iff_getElem.1 hx
      have := hat' i hi
      exact ⟨this.1, this.2.1⟩
    · have := (hat' (i + 1) hi).2.2.2
      rw [Nat.add_sub_cancel, List.getElem?_eq_getElem (show i < l.length by omega)] at this
      exact this.resolve_left (by omega)
    · rw [List.pairwise_iff_getElem]
      intro i j hi hj hij e
      have := (hat' j hj).2.2.1
      unfold docIn at this
      rw [List.any_eq_false] at this
      have hm : l[i] ∈ l.take j := by
        rw [List.mem_iff_getElem?]
        exact ⟨i, by rw [List.getElem?_take, if_pos hij, List.getElem?_eq_getElem hi]⟩
      have := this _ hm
      rw [e] at this
      simp at this
  · rintro ⟨h1, h2, h3, h4⟩
    refine ⟨fun q hq => ?_, by omega⟩
    obtain ⟨i, hi⟩ := List.mem_iff_getElem?.1 hq
    obtain ⟨hx, hqi⟩ := zipAt hi
    have hlt := (List.getElem?_eq_some_iff.1 hx).1
    have he := (List.getElem?_eq_some_iff.1 hx).2
    obtain ⟨r1, r2⟩ := h1 q.1 (List.mem_of_getElem? hx)
    unfold hitP
    rw [hqi]
    simp only [Bool.and_eq_true, Bool.or_eq_true, decide_eq_true_iff, Bool.not_eq_true', decide_eq_false_iff_not]
    refine ⟨r1, by omega, ?_, ?_⟩
    · unfold docIn
      rw [List.any_eq_false]
      intro y hy
      obtain ⟨k, hk⟩ := List.mem_iff_getElem?.1 hy
      have hk1 := (List.getElem?_eq_some_iff.1 hk).1
      rw [List.length_take] at hk1
      rw [List.getElem?_take, if_pos (by omega)] at hk
      have hk2 := (List.getElem?_eq_some_iff.1 hk).2
      have := List.pairwise_iff_getElem.1 h3 k i (by omega) hlt (by omega)
      rw [hk2, he] at this
      simpa using this
    · by_cases h0 : i = 0
      · exact .inl h0
      · refine .inr ?_
        rw [List.getElem?_eq_getElem (show i - 1 < l.length by omega)]
        have := List.pairwise_iff_getElem.1 h2 (i - 1) i (by omega) hlt (by omega)
        rw [he] at this
        exact this

/-! ## merging -/
def apartS (acc l : List GHit) : Bool := l.all fun h => !docIn acc h.Doc
def mergeL : List (List GHit) → List GHit → Option (List GHit)
  | [], acc => some acc
  | l :: ls, acc => if hitsS l && apartS acc l then mergeL ls (acc ++ l) else none
theorem merge_from {lists : List (List GHit)} {f : Nat → List GHit → Option (List GHit ⊕ List GHit)} (hl : ∀ l ∈ lists, l.length ≤ 100)
    (h : ∀ i l acc, lists[i]? = some l → acc.length ≤ 100 * i → f i acc = some (if hitsS l && apartS acc l then .inl (acc ++ l) else .inr [])) :
    ∀ k i acc, i + k = lists.length → acc.length ≤ 100 * i → forFrom f k i acc = some (match mergeL (lists.drop i) acc with | some a => .inl a | none => .inr [])
  | 0, i, acc, e, _ => by rw [List.drop_eq_nil_of_le (by omega)]; rfl
  | k + 1, i, acc, e, ha => by
    have hi : i < lists.length := by omega
    have hli := hl lists[i] (List.getElem_mem hi)
    rw [forFrom, h i lists[i] acc (List.getElem?_eq_getElem hi) ha, List.drop_eq_getElem_cons hi, mergeL]
    cases hitsS lists[i] && apartS acc lists[i] with
    | false => simp
    | true =>
      simp only [if_true, Option.bind_some, Sum.elim_inl]
      exact merge_from hl h k (i + 1) (acc ++ lists[i]) (by omega) (by simp only [List.length_append]; omega)
theorem mergeL_spec : ∀ {lists : List (List GHit)} {acc all : List GHit}, mergeL lists acc = some all → acc.Pairwise (fun a b => a.Doc ≠ b.Doc) → (∀ h ∈ acc, (1 ≤ h.Doc ∧ h.Doc ≤ 9999) ∧ 1 ≤ h.Points) →
    all = acc ++ lists.flatten ∧ all.Pairwise (fun a b => a.Doc ≠ b.Doc) ∧ ∀ h ∈ all, (1 ≤ h.Doc ∧ h.Doc ≤ 9999) ∧ 1 ≤ h.Points
  | [], acc, all, h, hp, hr => by
    simp only [mergeL, Option.some.injEq] at h
    subst h
    exact ⟨by simp, hp, hr⟩
  | l :: ls, acc, all, h, hp, hr => by
    rw [mergeL] at h
    split at h
    · rename_i hc
      rw [Bool.and_eq_true] at hc
      have hh := (hits_iff l).1 hc.1
      have := mergeL_spec h (List.pairwise_append.2 ⟨hp, hh.docs, fun a ha b hb e => by
        have h1 := (List.all_eq_true.1 hc.2) b hb
        simp only [Bool.not_eq_true', docIn, List.any_eq_false] at h1
        have := h1 a ha
        rw [e] at this
        simp at this⟩) (fun x hx => by
        rcases List.mem_append.1 hx with hx | hx
        · exact hr x hx
        · exact hh.rng x hx)
      refine ⟨?_, this.2⟩
      rw [this.1, List.flatten_cons, List.append_assoc]
    · cases h
def topS (lists : List (List GHit)) (most : Nat) : List GHit :=
  if (decide (1 ≤ (most : Int)) && decide ((most : Int) ≤ 16)) && decide ((lists.length : Int) ≤ 4) then (match mergeL lists [] with | some all => (sortH all).take most | none => []) else []
theorem nodup_docs {l : List GHit} (h : l.Pairwise fun a b => a.Doc ≠ b.Doc) : l.Nodup := h.imp fun {a b} hab e => hab (by rw [e])
theorem dec_gt (a b : Int) : decide (b < a) = !decide (a ≤ b) := by
  by_cases h : b < a
  · rw [decide_eq_true h, decide_eq_false (by omega)]; rfl
  · rw [decide_eq_false h, decide_eq_true (by omega)]; rfl
theorem implTop (F : Nat) (lists : List (List GHit)) (most : Nat) (hl : ∀ l ∈ lists, l.length ≤ 100) (hn : lists.length ≤ 9) : M.impl_TopMerge F lists (most : Int) = some (topS lists most) := by
  unfold M.impl_TopMerge topS
  rw [dec_gt (lists.length : Int) 4]
  cases decide ((lists.length : Int) ≤ 4) with
  | false => rw [Bool.not_false, cond_true, Option.bind_some, Bool.and_false]; rfl
  | true =>
    rw [Bool.not_true, cond_false, withinS, Option.bind_some, Option.bind_some]
    cases (decide (1 ≤ (most : Int)) && decide ((most : Int) ≤ 16)) with
    | false => rfl
    | true =>
      rw [Bool.not_true, cond_false, merge_from hl (fun i l acc hx ha => ?_) lists.length 0 [] (by omega) (by simp), List.drop_zero]
      · cases hm : mergeL lists [] with
        | none => rfl
        | some all =>
          obtain ⟨he, hp, _⟩ := mergeL_spec hm List.Pairwise.nil (by simp)
          have hal : all.length ≤ 1000 := by
            rw [he, List.nil_append]
            have gen : ∀ ls : List (List GHit), (∀ l ∈ ls, l.length ≤ 100) → ls.flatten.length ≤ 100 * ls.length := by
              intro ls
              induction ls with
              | nil => intro _; simp
              | cons a ls ih =>
                intro h
                have := ih (fun l hl => h l (by simp [hl]))
                have := h a (by simp)
                rw [List.flatten_cons, List.length_append, List.length_cons]; omega
            have := gen lists hl
            omega
          simp only [Option.bind_some, Sum.elim_inl]
          rw [first_ok F all most (nodup_docs hp) hal]; rfl
      · have hli := hl l (List.mem_of_getElem? hx)
        have hi := (List.getElem?_eq_some_iff.1 hx).1
        rw [getI_nat', hx, Option.bind_some, implHits F l (by omega), Option.bind_some]
        cases hitsS l with
        | false => rfl
        | true =>
          rw [Bool.not_true, cond_false]
          rw [all_from' (p := fun h => !docIn acc h.Doc) (xs := l) (e := ([] : List GHit)) (fun k x hk => ?_) l.length 0 (by omega), List.drop_zero]
          · unfold apartS
            cases l.all fun h => !docIn acc h.Doc with
            | false => rfl
            | true =>
              simp only [if_true, Option.bind_some, Sum.elim_inl, Bool.and_self]
              rw [catLok (by omega)]; rfl
          · rw [getI_nat', hk, Option.bind_some, hasDoc_ok, Option.bind_some]
            cases docIn acc x.Doc <;> rfl
end Go.Fk
