/-
  Facets: what the program counts is what the reference counts; two shards together count as much.
-/
import Derived.Test.YtoeajphlomankaaLawShard
import Derived.Test.YtoeajphlomankaaLawFacetP
import Derived.Test.YtoeajphlomankaaLawBase
set_option linter.unusedVariables false
set_option maxRecDepth 100000
namespace Go.Fk
open Go

/-! ## numbers of a document by a name -/
def numS (d : GDoc) (name : Str) : Int := (d.Nums.find? fun a => a.Name == name).elim (-1) (·.Num)
theorem impl_num (F : Nat) (d : GDoc) (name : Str) (hd : docS d = true) : M.impl_DocNum F d name = some (numS d name) := by
  unfold M.impl_DocNum numS
  rw [impl_doc, Option.bind_some, hd, cond_true]
  rw [find_from (fun a => a.Name == name) (fun a => a.Num) (fun i x hx => by
    rw [getI_nat', hx, Option.bind_some]; cases x.Name == name <;> rfl)]
  cases List.find? (fun a => a.Name == name) d.Nums <;> rfl
theorem spec_num (F : Nat) (d : GDoc) (name : Str) (hl : d.Nums.length < F) (hb : d.Nums.length ≤ 1000000) : M.spec_l6Num F d name = some (numS d name) := by
  unfold M.spec_l6Num numS
  rw [find_while (xs := d.Nums) (fun a => a.Name == name) (fun a => (.inr a.Num : Unit ⊕ Int)) (e := .inl ()) F hl (fun i x hx => ?_) ?_]
  · cases List.find? (fun a => a.Name == name) d.Nums <;> rfl
  · rw [decide_eq_false (by omega)]; rfl
  · have hi := (List.getElem?_eq_some_iff.1 hx).1
    rw [decide_eq_true (by omega), cond_true, getI_nat', hx, Option.bind_some, Option.bind_some, w64_succ' (by omega)]
    cases x.Name == name <;> rfl
theorem num_ok {d : GDoc} {name : Str} (hd : docS d = true) : numS d name = -1 ∨ (0 ≤ numS d name ∧ numS d name ≤ 999999999) := by
  unfold numS
  cases hf : d.Nums.find? fun a => a.Name == name with
  | none => exact .inl rfl
  | some a =>
    have hm := List.mem_of_find?_eq_some hf
    unfold docS at hd
    simp only [Bool.and_eq_true] at hd
    have h1 := (pairS_ok hd.1.2).1 a hm
    unfold attrOk at h1
    simp only [Bool.and_eq_true, decide_eq_true_iff] at h1
    exact .inr h1.2
theorem num_test {d : GDoc} {name : Str} (hd : docS d = true) : (!(numS d name == -1)) = decide (0 ≤ numS d name) := by
  rcases num_ok (name := name) hd with h | h
  · rw [h]; rfl
  · rw [decide_eq_true h.1, beq_eq_false_iff_ne.2 (by omega)]; rfl

/-! ## numbers that ascend -/
def upS (ids : List Int) : Bool := pairS (fun n => decide (0 ≤ n) && decide (n ≤ 999999999)) (fun a b => decide (a < b)) ids && decide ((ids.length : Int) ≤ 60)
theorem impl_up (F : Nat) (ids : List Int) (hl : ids.length < 9000000000000000000) : M.impl_UpOk F ids = some (upS ids) := by
  unfold M.impl_UpOk upS
  rw [pair_from (ok := fun n => decide (0 ≤ n) && decide (n ≤ 999999999)) (lt := fun a b => decide (a < b)) (fun i x hx => ?_)]
  · cases pairS (fun n => decide (0 ≤ n) && decide (n ≤ 999999999)) (fun a b => decide (a < b)) ids <;> rfl
  · have hi := (List.getElem?_eq_some_iff.1 hx).1
    rw [getI_nat', hx, Option.bind_some, withinS, Option.bind_some]
    cases (decide (0 ≤ x) && decide (x ≤ 999999999)) with
    | false => rfl
    | true =>
      rw [Bool.not_true, cond_false, Bool.true_and]
      by_cases h0 : i = 0
      · subst h0; rfl
      · rw [decide_eq_true (show (0 : Int) < (i : Int) by omega), cond_true, w64_pred (by omega) (by omega), getI_nat', List.getElem?_eq_getElem (show i - 1 < ids.length by omega), Option.bind_some, Option.bind_some, decide_eq_false h0, Bool.false_or]
        show _ = some (if decide (ids[i - 1] < x) = true then _ else _)
        rw [show decide (x ≤ ids[i - 1]) = !decide (ids[i - 1] < x) by rw [dec_le]; simp]
        cases decide (ids[i - 1] < x) <;> rfl
theorem spec_up (F : Nat) (ids : List Int) (hl : ids.length ≤ 1000) (hF : 2000 < F) : M.spec_l3Up F ids = some (upS ids) := by
  unfold M.spec_l3Up upS
  rw [pair_while (xs := ids) (ok := fun n => decide (0 ≤ n) && decide (n ≤ 999999999)) (lt := fun a b => decide (a < b)) (fun i x hx => ?_) ?_ F (by omega)]
  · cases pairS (fun n => decide (0 ≤ n) && decide (n ≤ 999999999)) (fun a b => decide (a < b)) ids <;> rfl
  · rw [decide_eq_false (by omega)]; rfl
  · have hi := (List.getElem?_eq_some_iff.1 hx).1
    rw [decide_eq_true (by omega), cond_true, getI_nat', hx, Option.bind_some, inS, Option.bind_some]
    cases (decide (0 ≤ x) && decide (x ≤ 999999999)) with
    | false => rfl
    | true =>
      rw [Bool.not_true, cond_false, Bool.true_and, w64_succ' (by omega)]
      by_cases h0 : i = 0
      · subst h0; rfl
      · rw [decide_eq_true (show (0 : Int) < (i : Int) by omega), cond_true, Option.bind_some, w64_pred (by omega) (by omega), getI_nat', List.getElem?_eq_getElem (show i - 1 < ids.length by omega), Option.bind_some, Option.bind_some, decide_eq_false h0, Bool.false_or]
        show _ = some (if decide (ids[i - 1] < x) = true then _ else _)
        rw [show decide (x ≤ ids[i - 1]) = !decide (ids[i - 1] < x) by rw [dec_le]; simp]
        cases decide (ids[i - 1] < x) <;> rfl

/-! ## what is counted -/
def selP (ids : List Int) (name : Str) (d : GDoc) : Bool := decide (0 ≤ numS d name) && ids.any fun x => d.Id == x
def selG (ids : List Int) (name : Str) (d : GDoc) : List Int := if selP ids name d then [numS d name] else []
def selS (ds : List GDoc) (ids : List Int) (name : Str) : List Int := ds.flatMap (selG ids name)
theorem contains_int (F : Nat) (xs : List Int) (n : Int) : M.slices_Contains_int F xs n = some (xs.any fun x => n == x) := by
  unfold M.slices_Contains_int M.slices_Index_int
  rw [idx_from (fun x => n == x) (fun i x hx => by
    rw [getI_nat', hx, Option.bind_some]; cases n == x <;> rfl), ← idx_ge]
  cases xs.findIdx? (fun x => n == x) <;> rfl
theorem find_any (xs : List Int) (n : Int) : (xs.find? fun x => x == n).isSome = xs.any fun x => n == x := by
  induction xs with
  | nil => rfl
  | cons x r ih =>
    rw [List.find?_cons, List.any_cons, show (n == x) = (x == n) from Bool.eq_iff_iff.2 ⟨fun h => beq_iff_eq.2 (eq_of_beq h).symm, fun h => beq_iff_eq.2 (eq_of_beq h).symm⟩]
    cases x == n with
    | true => rfl
    | false => rw [Bool.false_or, ← ih]
theorem has_int (F : Nat) (xs : List Int) (n : Int) (hl : xs.length < 1000000) (hF : xs.length < F) : M.spec_l8Has F xs n = some (xs.any fun x => n == x) := by
  unfold M.spec_l8Has
  rw [find_while (xs := xs) (fun x => x == n) (fun _ => (.inr true : Unit ⊕ Bool)) (e := .inl ()) F hF (fun i x hx => ?_) ?_]
  · rw [← find_any]
    cases xs.find? (fun x => x == n) <;> rfl
  · rw [decide_eq_false (by omega)]; rfl
  · have hi := (List.getElem?_eq_some_iff.1 hx).1
    rw [decide_eq_true (by omega), cond_true, getI_nat', hx, Option.bind_some, w64_succ' (by omega)]
    cases x == n <;> rfl
theorem selG_le (ids : List Int) (name : Str) (d : GDoc) : (selG ids name d).length ≤ 1 := by unfold selG; split <;> simp
theorem selS_len (ds : List GDoc) (ids : List Int) (name : Str) : (selS ds ids name).length ≤ ds.length := by
  have := flat_le (m := 1) ds (fun d _ => selG_le ids name d)
  unfold selS; omega
theorem docs_ok_all {ds : List GDoc} (h : docsS ds = true) : ∀ d ∈ ds, docS d = true := by
  unfold docsS at h
  rw [Bool.and_eq_true] at h
  exact (pairS_ok h.1).1
theorem impl_sel (F : Nat) (ds : List GDoc) (ids : List Int) (name : Str) (hd : docsS ds = true) : M.impl_selected F ds ids name = some (selS ds ids name) := by
  have hl := (docs_ids hd).1
  have hlen := selS_len ds ids name
  unfold M.impl_selected
  rw [fm_forE (selG ids name) 1000 (fun i x acc hx hB => ?_) [] (by rw [List.nil_append]; show (selS ds ids name).length ≤ _; omega)]
  · rfl
  · have hdx := docs_ok_all hd x (List.mem_of_getElem? hx)
    rw [getI_nat', hx, Option.bind_some, impl_num F x name hdx, Option.bind_some, num_test hdx, contains_int]
    unfold selG selP
    cases decide (0 ≤ numS x name) with
    | false => simp
    | true =>
      rw [cond_true, Option.bind_some, Option.bind_some, Bool.true_and]
      cases (ids.any fun y => x.Id == y) with
      | false => simp
      | true =>
        rw [cond_true, catLok (by simp only [List.length_singleton]; rw [List.length_append] at hB; omega)]; rfl

/-! ## facets -/
theorem cmp_int (F : Nat) (a b : Int) : M.cmp_Compare_int F a b = some (if a < b then -1 else if b < a then 1 else 0) := by
  unfold M.cmp_Compare_int M.cmp_isNaN_int
  simp only [beq_self_eq_true, Bool.not_true, Option.bind_some, cond_false]
  by_cases h : a < b
  · rw [decide_eq_true h, if_pos h]; rfl
  · rw [decide_eq_false h, if_neg h]
    by_cases h2 : b < a
    · rw [decide_eq_true h2, if_pos h2]; rfl
    · rw [decide_eq_false h2, if_neg h2]; rfl
theorem or_int (F : Nat) (a b : Int) : M.cmp_Or_int F [a, b] = some (if a = 0 then b else a) := by
  unfold M.cmp_Or_int
  rw [find_from (fun x => !(x == (0 : Int))) (fun x => x) (fun i x hx => by
    rw [getI_nat', hx, Option.bind_some]; cases x == (0 : Int) <;> rfl)]
  by_cases ha : a = 0
  · subst ha
    by_cases hb : b = 0
    · subst hb; rfl
    · have : (b == 0) = false := beq_eq_false_iff_ne.2 hb
      simp [List.find?, this]
  · have : (a == 0) = false := beq_eq_false_iff_ne.2 ha
    simp [List.find?, this, ha]
theorem ordF_ok (F : Nat) (a b : GFacet) : M.impl_FacetOf_1 F a b = some (if b.Many < a.Many then -1 else if a.Many < b.Many then 1 else if a.Num < b.Num then -1 else if b.Num < a.Num then 1 else 0) := by
  unfold M.impl_FacetOf_1
  rw [cmp_int, Option.bind_some, cmp_int, Option.bind_some, or_int, Option.bind_some]
  congr 1
  split
  · rfl
  · split <;> simp
def ltFa (a b : GFacet) : Bool := ltF (a.Num, a.Many) (b.Num, b.Many)
theorem ordF_lt (F : Nat) (a b : GFacet) : ltO (fun a b => M.impl_FacetOf_1 F a b) a b = ltFa a b := by
  unfold ltO
  show decide ((M.impl_FacetOf_1 F a b).getD 0 < 0) = _
  rw [ordF_ok, Bool.eq_iff_iff]
  unfold ltFa
  rw [ltF_iff]
  simp only [Option.getD_some, decide_eq_true_iff]
  split <;> rename_i h1
  · exact ⟨fun _ => .inl h1, fun _ => by decide⟩
  · split <;> rename_i h2
    · constructor
      · intro h; exact absurd h (by decide)
      · intro h; omega
    · split <;> rename_i h3
      · constructor
        · intro _; right; omega
        · intro _; decide
      · constructor
        · intro h
          split at h <;> exact absurd h (by decide)
        · intro h; omega
theorem facet_sort (F : Nat) (ns : List Int) (hl : ns.length ≤ 100000) : sortO (fun a b => M.impl_FacetOf_1 F a b) ((countM ns).map facetOf) = some ((sortP (countP' ns)).map facetOf) := by
  obtain ⟨h1, h2⟩ := facets_same ns
  refine sortO_is (lt := ltFa) (ordF_lt F) (fun a b => by rw [ordF_ok]; rfl) (fun a => ltF_irr _) (fun h h' => ltF_tr h h') (fun h => ltF_ng h) ?_ ?_ (fun x => ?_) ?_
  · exact List.pairwise_map.2 ((countM_apart ns).imp fun {a b} h => h)
  · exact List.pairwise_map.2 (h1.imp fun {a b} h => h)
  · rw [List.mem_map, List.mem_map]
    constructor <;> rintro ⟨p, hp, rfl⟩
    · exact ⟨p, (h2 p).1 hp, rfl⟩
    · exact ⟨p, (h2 p).2 hp, rfl⟩
  · rw [List.length_map]
    have hc := count_ok ns
    have hle : (countM ns).length ≤ ns.length := counts_len hc
    omega
/-! ## the reference's counting -/
def rankB {α : Type} (p : α → Bool) : List α → Nat
  | [] => 0
  | x :: r => if p x then rankB p r + 1 else 0
theorem rankB_le {α : Type} (p : α → Bool) : ∀ l : List α, rankB p l ≤ l.length
  | [] => Nat.le_refl _
  | x :: r => by
    unfold rankB
    have := rankB_le p r
    split <;> simp only [List.length_cons] <;> omega
theorem rank_while {α : Type} (p : α → Bool) {xs : List α} {f : Int → Option (Int ⊕ Int)} (h1 : ∀ (i : Nat) x, xs[i]? = some x → f (i : Int) = some (if p x then .inl ((i + 1 : Nat) : Int) else .inr (i : Int)))
    (h0 : f (xs.length : Int) = some (.inr (xs.length : Int))) : ∀ (k i F : Nat), i + k = xs.length → k < F → whileM f F (i : Int) = some ((i + rankB p (xs.drop i) : Nat) : Int)
  | 0, i, F, e, hF => by
    obtain ⟨F, rfl⟩ : ∃ G, F = G + 1 := ⟨F - 1, by omega⟩
    rw [whileM, show i = xs.length by omega, h0, List.drop_eq_nil_of_le (by omega)]; rfl
  | k + 1, i, F, e, hF => by
    obtain ⟨F, rfl⟩ : ∃ G, F = G + 1 := ⟨F - 1, by omega⟩
    have hi : i < xs.length := by omega
    rw [whileM, h1 i xs[i] (List.getElem?_eq_getElem hi), List.drop_eq_getElem_cons hi, rankB]
    cases p xs[i] with
    | true =>
      simp only [if_true, Option.bind_some, Sum.elim_inl]
      rw [rank_while p h1 h0 k (i + 1) F (by omega) (by omega)]
      congr 2; omega
    | false => simp
theorem rank_while0 {α : Type} (p : α → Bool) {xs : List α} {f : Int → Option (Int ⊕ Int)} (F : Nat) (hF : xs.length < F) (h1 : ∀ (i : Nat) x, xs[i]? = some x → f (i : Int) = some (if p x then .inl ((i + 1 : Nat) : Int) else .inr (i : Int)))
    (h0 : f (xs.length : Int) = some (.inr (xs.length : Int))) : whileM f F (0 : Int) = some ((rankB p xs : Nat) : Int) := by
  have := rank_while p h1 h0 xs.length 0 F (by omega) hF
  rwa [List.drop_zero, Nat.zero_add] at this
theorem subL_head {α : Type} {xs : List α} {k : Nat} (h : k ≤ xs.length) : subL xs 0 (k : Int) = some (xs.take k) := by
  unfold subL
  rw [if_pos (by omega)]; simp
theorem subL_tail {α : Type} {xs : List α} {k : Nat} (h : k ≤ xs.length) : subL xs (k : Int) (xs.length : Int) = some (xs.drop k) := by
  unfold subL
  rw [if_pos (by omega)]; simp
def ltN (n : Int) (p : Int × Int) : Bool := decide (p.1 < n)
theorem putP_cut (n : Int) : ∀ l : List (Int × Int), putP n l = if (l[rankB (ltN n) l]?).elim false (fun x => x.1 == n) then l.take (rankB (ltN n) l) ++ [(n, (l[rankB (ltN n) l]?).elim 0 (·.2) + 1)] ++ l.drop (rankB (ltN n) l + 1) else l.take (rankB (ltN n) l) ++ [(n, 1)] ++ l.drop (rankB (ltN n) l)
  | [] => rfl
  | a :: l => by
    by_cases h : a.1 < n
    · have e : ltN n a = true := decide_eq_true h
      have e2 : rankB (ltN n) (a :: l) = rankB (ltN n) l + 1 := by rw [rankB, e]; rfl
      rw [putP, if_pos h, e2, List.getElem?_cons_succ, putP_cut n l, List.take_succ_cons, List.drop_succ_cons, List.drop_succ_cons]
      split <;> simp
    · have e : ltN n a = false := decide_eq_false h
      have e2 : rankB (ltN n) (a :: l) = 0 := by rw [rankB, e]; rfl
      rw [putP, if_neg h, e2, List.getElem?_cons_zero, Option.elim_some, Option.elim_some]
      by_cases h2 : a.1 = n
      · rw [if_pos h2, if_pos (by simpa using h2)]; rfl
      · rw [if_neg h2, if_neg (by simpa using h2)]; rfl
theorem map_rank (n : Int) : ∀ l : List (Int × Int), rankB (fun x : GFacet => decide (x.Num < n)) (l.map facetOf) = rankB (ltN n) l
  | [] => rfl
  | a :: l => by
    rw [List.map_cons]
    unfold rankB
    rw [map_rank n l]; rfl
theorem putP_len (n : Int) (l : List (Int × Int)) : (putP n l).length ≤ l.length + 1 := by
  induction l with
  | nil => simp [putP]
  | cons a l ih =>
    unfold putP
    split
    · simp only [List.length_cons]; omega
    · split <;> simp only [List.length_cons] <;> omega
theorem putP_val {n : Int} {b : Int} (hb : 0 ≤ b) : ∀ {l : List (Int × Int)}, (∀ p ∈ l, 0 ≤ p.2 ∧ p.2 ≤ b) → ∀ p ∈ putP n l, 0 ≤ p.2 ∧ p.2 ≤ b + 1
  | [], _, p, hp => by
    simp only [putP, List.mem_singleton] at hp
    subst hp; simp only; omega
  | a :: l, h, p, hp => by
    have ha := h a (List.mem_cons_self ..)
    have hl : ∀ q ∈ l, 0 ≤ q.2 ∧ q.2 ≤ b := fun q hq => h q (List.mem_cons_of_mem _ hq)
    unfold putP at hp
    split at hp
    · rcases List.mem_cons.1 hp with rfl | hp
      · omega
      · exact putP_val hb hl p hp
    · split at hp
      · rcases List.mem_cons.1 hp with rfl | hp
        · simp only; omega
        · have := hl p hp; omega
      · rcases List.mem_cons.1 hp with rfl | hp
        · simp only; omega
        · have := h p hp; omega
theorem spec_put16 (F : Nat) (l : List (Int × Int)) (n : Int) (hl : l.length ≤ 1000) (hv : ∀ p ∈ l, 0 ≤ p.2 ∧ p.2 ≤ 1000000) (hF : 2000 < F) : M.spec_l16Put F (l.map facetOf) n = some ((putP n l).map facetOf) := by
  unfold M.spec_l16Put
  have hrl := rankB_le (ltN n) l
  rw [rank_while0 (xs := l.map facetOf) (fun x : GFacet => decide (x.Num < n)) F (by rw [List.length_map]; omega) (fun i x hx => ?_) ?_]
  · rw [map_rank, Option.bind_some, Option.bind_some, subL_head (by rw [List.length_map]; exact hrl), Option.bind_some, catLok (by simp only [List.length_nil, List.length_take, List.length_map]; omega), Option.bind_some, putP_cut, List.length_map]
    rcases Nat.lt_or_ge (rankB (ltN n) l) l.length with h | h
    · rw [decide_eq_true (by omega), cond_true, getI_nat', List.getElem?_map, List.getElem?_eq_getElem h, Option.map_some, Option.bind_some, Option.bind_some, Option.elim_some, Option.elim_some]
      have hv0 := hv _ (List.getElem_mem h)
      show (bif (l[rankB (ltN n) l].1 == n) then _ else _) = _
      cases l[rankB (ltN n) l].1 == n with
      | true =>
        rw [cond_true, if_pos rfl, Option.bind_some, catLok (by simp only [List.length_take, List.length_map, List.nil_append, List.length_singleton]; omega), Option.bind_some, w64_succ' (by omega)]
        have := subL_tail (xs := l.map facetOf) (k := rankB (ltN n) l + 1) (by rw [List.length_map]; omega)
        rw [List.length_map] at this
        rw [this, Option.bind_some, catLok (by simp only [List.length_append, List.length_drop, List.length_take, List.length_map, List.nil_append, List.length_singleton]; omega), Option.bind_some, w64_of ⟨by show _ ≤ l[rankB (ltN n) l].2 + 1; omega, by show l[rankB (ltN n) l].2 + 1 ≤ _; omega⟩]
        simp [List.map_append, List.map_take, List.map_drop, facetOf]
      | false =>
        rw [cond_false, if_neg (by simp), catLok (by simp only [List.length_take, List.length_map, List.nil_append, List.length_singleton]; omega), Option.bind_some]
        have := subL_tail (xs := l.map facetOf) (k := rankB (ltN n) l) (by rw [List.length_map]; omega)
        rw [List.length_map] at this
        rw [this, Option.bind_some, catLok (by simp only [List.length_append, List.length_drop, List.length_take, List.length_map, List.nil_append, List.length_singleton]; omega), Option.bind_some]
        simp [List.map_append, List.map_take, List.map_drop, facetOf]
    · rw [decide_eq_false (by omega), cond_false, Option.bind_some, cond_false, List.getElem?_eq_none h, Option.elim_none, if_neg (by simp), catLok (by simp only [List.length_take, List.length_map, List.nil_append, List.length_singleton]; omega), Option.bind_some]
      have := subL_tail (xs := l.map facetOf) (k := rankB (ltN n) l) (by rw [List.length_map]; omega)
      rw [List.length_map] at this
      rw [this, Option.bind_some, catLok (by simp only [List.length_append, List.length_drop, List.length_take, List.length_map, List.nil_append, List.length_singleton]; omega), Option.bind_some]
      simp [List.map_append, List.map_take, List.map_drop, facetOf]
  · rw [decide_eq_false (by omega)]; rfl
  · have hi := (List.getElem?_eq_some_iff.1 hx).1
    rw [List.length_map] at hi
    rw [List.length_map, decide_eq_true (by omega), cond_true, getI_nat', hx, Option.bind_some, Option.bind_some, w64_succ' (by omega)]
    cases decide (x.Num < n) <;> rfl
def geM (p q : Int × Int) : Bool := decide (p.2 ≤ q.2)
theorem insP_cut (p : Int × Int) : ∀ l : List (Int × Int), insP p l = l.take (rankB (geM p) l) ++ [p] ++ l.drop (rankB (geM p) l)
  | [] => rfl
  | a :: l => by
    by_cases h : p.2 ≤ a.2
    · have e2 : rankB (geM p) (a :: l) = rankB (geM p) l + 1 := by rw [rankB, show geM p a = true from decide_eq_true h]; rfl
      rw [insP, if_pos h, e2, insP_cut p l, List.take_succ_cons, List.drop_succ_cons]; simp
    · have e2 : rankB (geM p) (a :: l) = 0 := by rw [rankB, show geM p a = false from decide_eq_false h]; rfl
      rw [insP, if_neg h, e2]; rfl
theorem map_rank' (p : Int × Int) : ∀ l : List (Int × Int), rankB (fun x : GFacet => decide (p.2 ≤ x.Many)) (l.map facetOf) = rankB (geM p) l
  | [] => rfl
  | a :: l => by
    rw [List.map_cons]
    unfold rankB
    rw [map_rank' p l]; rfl
theorem insP_len (p : Int × Int) (l : List (Int × Int)) : (insP p l).length = l.length + 1 := by
  have := rankB_le (geM p) l
  rw [insP_cut]; simp; omega
theorem spec_sort16 (F : Nat) (l : List (Int × Int)) (hl : l.length ≤ 1000) (hF : 2000 < F) : M.spec_l16Sort F (l.map facetOf) = some ((sortP l).map facetOf) := by
  unfold M.spec_l16Sort
  have h := fold_while (xs := l) (fun (acc : List (Int × Int)) p => insP p acc) (fun i acc => acc.length = i) (fun acc => acc.map facetOf) (fun acc i => (acc.map facetOf, i)) (s0 := (([] : List GFacet), (0 : Int))) [] rfl F (by omega) rfl (f := (fun (s22 : (List GFacet) × Int) => (cond (decide (s22.2 < ((l.map facetOf).length : Int))) (Option.bind ((Option.bind (whileM (σ := Int) (τ := Int) (fun (s48 : Int) => (Option.bind ((cond (decide (s48 < (s22.1.length : Int))) (Option.bind (getI s22.1 s48) fun x69 => (Option.bind (getI (l.map facetOf) s22.2) fun x80 => (some (decide (x80.Many ≤ x69.Many))))) (some false)) : Option Bool) fun o60 => (cond o60 (some (.inl (w64 (s48 + (1 : Int))))) (some (.inr s48))))) F (0 : Int)) fun r49 => (some r49)) : Option Int) fun o40 => (Option.bind (subL s22.1 0 o40) fun x108 => (Option.bind (catL 16 ([] : List GFacet) x108) fun x115 => (Option.bind (getI (l.map facetOf) s22.2) fun x126 => (Option.bind (catL 16 x115 ([x126] : List GFacet)) fun x144 => (Option.bind (subL s22.1 o40 s22.1.length) fun x155 => (Option.bind (catL 16 x144 x155) fun x162 => (some (.inl (x162, (w64 (s22.2 + (1 : Int))))))))))))) (some (.inr s22.1))))) (fun i p acc hp hacc => ?_) (fun acc hacc => ?_)
  · rw [h.1]; rfl
  · have hi := (List.getElem?_eq_some_iff.1 hp).1
    have hrl := rankB_le (geM p) acc
    refine ⟨?_, by rw [insP_len, hacc]⟩
    dsimp only
    rw [List.length_map, decide_eq_true (by omega), cond_true]
    have hg : getI (l.map facetOf) (i : Int) = some (facetOf p) := by rw [getI_nat', List.getElem?_map, hp]; rfl
    rw [rank_while0 (xs := acc.map facetOf) (fun x : GFacet => decide (p.2 ≤ x.Many)) F (by rw [List.length_map]; omega) (fun k x hx => ?_) ?_]
    · rw [map_rank', Option.bind_some, Option.bind_some, subL_head (by rw [List.length_map]; exact hrl), Option.bind_some, catLok (by simp only [List.length_nil, List.length_take, List.length_map]; omega), Option.bind_some, hg, Option.bind_some, catLok (by simp only [List.length_take, List.length_map, List.nil_append, List.length_singleton]; omega), Option.bind_some]
      rw [subL_tail (by rw [List.length_map]; omega), Option.bind_some, catLok (by simp only [List.length_append, List.length_drop, List.length_take, List.length_map, List.nil_append, List.length_singleton]; omega), Option.bind_some, w64_succ' (by omega), insP_cut]
      simp [List.map_append, List.map_take, List.map_drop]
    · rw [decide_eq_false (by omega)]; rfl
    · have hk := (List.getElem?_eq_some_iff.1 hx).1
      rw [List.length_map] at hk
      rw [List.length_map, decide_eq_true (by omega), cond_true, getI_nat', hx, Option.bind_some, hg, Option.bind_some, Option.bind_some, w64_succ' (by omega)]
      show (bif decide (p.2 ≤ x.Many) then _ else _) = _
      cases decide (p.2 ≤ x.Many) <;> rfl
  · dsimp only
    rw [List.length_map, decide_eq_false (by omega)]; rfl
theorem fold_sel (ids : List Int) (name : Str) : ∀ (ds : List GDoc) (acc : List (Int × Int)), ds.foldl (fun acc d => if selP ids name d then putP (numS d name) acc else acc) acc = (selS ds ids name).foldl (fun l n => putP n l) acc
  | [], acc => rfl
  | d :: ds, acc => by
    rw [List.foldl_cons, fold_sel ids name ds]
    unfold selS
    rw [List.flatMap_cons, List.foldl_append]
    congr 1
    unfold selG
    cases selP ids name d <;> rfl
theorem spec_of16 (F : Nat) (ds : List GDoc) (ids : List Int) (name : Str) (hd : DocsFit ds) (hi : ids.length ≤ 1000) (hF : 2000 < F) : M.spec_l16Of F ds ids name = some ((sortP (countP' (selS ds ids name))).map facetOf) := by
  have hfew := hd.few
  unfold M.spec_l16Of
  have h := fold_while (xs := ds) (fun (acc : List (Int × Int)) d => if selP ids name d then putP (numS d name) acc else acc) (fun i acc => acc.length ≤ i ∧ ∀ p ∈ acc, 0 ≤ p.2 ∧ p.2 ≤ (i : Int)) (fun acc => acc.map facetOf) (fun acc i => (acc.map facetOf, i)) (s0 := (([] : List GFacet), (0 : Int))) [] rfl F (by omega) ⟨Nat.le_refl _, by simp⟩ (f := (fun (s27 : (List GFacet) × Int) => (cond (decide (s27.2 < (ds.length : Int))) (Option.bind (getI ds s27.2) fun x46 => (Option.bind (M.spec_l6Num F x46 name) fun r64 => (Option.bind ((cond (decide ((0 : Int) ≤ r64)) (Option.bind (getI ds s27.2) fun x82 => (Option.bind (M.spec_l8Has F ids x82.Id) fun r100 => (some r100))) (some false)) : Option Bool) fun o73 => (cond o73 (Option.bind (M.spec_l16Put F s27.1 r64) fun r110 => (some (.inl (r110, (w64 (s27.2 + (1 : Int))))))) (some (.inl (s27.1, (w64 (s27.2 + (1 : Int)))))))))) (some (.inr s27.1))))) (fun i d acc hp hacc => ?_) (fun acc hacc => ?_)
  · rw [h.1, Option.bind_some, Option.bind_some, fold_sel]
    have hc := (countP_ok (selS ds ids name)).1
    have hl1 := counts_len hc
    have hl2 := selS_len ds ids name
    show Option.bind (M.spec_l16Sort F ((countP' (selS ds ids name)).map facetOf)) _ = _
    rw [spec_sort16 F _ (by omega) hF]; rfl
  · have hi' := (List.getElem?_eq_some_iff.1 hp).1
    have hdd := hd.doc d (List.mem_of_getElem? hp)
    have hn := hdd.nums
    obtain ⟨k1, k2⟩ := hacc
    dsimp only
    rw [decide_eq_true (by omega), cond_true, getI_nat', hp, Option.bind_some, spec_num F d name (by omega) (by omega), Option.bind_some, Option.bind_some, has_int F ids d.Id (by omega) (by omega), Option.bind_some, w64_succ' (by omega)]
    unfold selP
    have hmono : ∀ p ∈ acc, 0 ≤ p.2 ∧ p.2 ≤ ((i + 1 : Nat) : Int) := fun p hp => by have := k2 p hp; omega
    cases decide (0 ≤ numS d name) with
    | false => exact ⟨rfl, (by show acc.length ≤ i + 1; omega), hmono⟩
    | true =>
      rw [cond_true, Option.bind_some, Bool.true_and]
      cases (ids.any fun y => d.Id == y) with
      | false => exact ⟨rfl, by simp only [Bool.false_eq_true, if_false]; omega, by simpa using hmono⟩
      | true =>
        rw [cond_true, if_pos rfl, spec_put16 F acc _ (by omega) (fun p hp => by have := k2 p hp; omega) hF]
        have hlen := putP_len (numS d name) acc
        refine ⟨rfl, by omega, fun p hp => ?_⟩
        have := putP_val (b := (i : Int)) (by omega) k2 p hp
        omega
  · dsimp only
    rw [decide_eq_false (by omega)]; rfl
def facS (ds : List GDoc) (ids : List Int) (name : Str) : List GFacet := if docsS ds && upS ids then (sortP (countP' (selS ds ids name))).map facetOf else []
theorem spec_facet (F : Nat) (ds : List GDoc) (ids : List Int) (name : Str) (hd : DocsFit ds) (hi : ids.length ≤ 1000) (hF : 2000 < F) : M.spec_FacetOf F ds ids name = some (facS ds ids name) := by
  unfold M.spec_FacetOf facS
  rw [spec_docs F ds hd hF, Option.bind_some]
  cases docsS ds with
  | false => rfl
  | true =>
    rw [Bool.not_true, cond_false, spec_up F ids hi hF, Option.bind_some, Option.bind_some]
    cases upS ids with
    | false => rfl
    | true => rw [Bool.not_true, cond_false, spec_of16 F ds ids name hd hi hF]; rfl
theorem countW_eq (ns : List Int) (hl : ns.length ≤ 1000000) : countW ns = countM ns := by
  have key : ∀ (ns pre : List Int) (m : List (Int × Int)), Counts m pre → (pre ++ ns).length ≤ 1000000 → ns.foldl (fun m n => putM n (w64 (lookM m n + 1)) m) m = ns.foldl (fun m n => putM n (lookM m n + 1) m) m := fun ns => by
    induction ns with
    | nil => intros; rfl
    | cons n ns ih =>
      intro pre m hc hl
      have h1 : lookM m n = (pre.count n : Int) := hc.look n
      have h2 : pre.count n ≤ pre.length := List.count_le_length
      rw [List.length_append, List.length_cons] at hl
      rw [List.foldl_cons, List.foldl_cons, w64_of ⟨by omega, by omega⟩]
      exact ih (pre ++ [n]) _ (hc.step n) (by simp; omega)
  exact key ns [] [] ⟨List.Pairwise.nil, by simp⟩ (by simpa using hl)
theorem impl_facet (F : Nat) (ds : List GDoc) (ids : List Int) (name : Str) (hd : ds.length ≤ 100) (hi : ids.length ≤ 1000) : M.impl_FacetOf F ds ids name = some (facS ds ids name) := by
  unfold M.impl_FacetOf facS
  rw [impl_docs F ds (by omega), Option.bind_some]
  cases hds : docsS ds with
  | false => rfl
  | true =>
    rw [Bool.not_true, cond_false, impl_up F ids (by omega), Option.bind_some, Option.bind_some]
    cases upS ids with
    | false => rfl
    | true =>
      have hl := selS_len ds ids name
      have hcl := counts_len (count_ok (selS ds ids name))
      rw [Bool.not_true, cond_false, impl_sel F ds ids name hds, Option.bind_some, countW_eq _ (by omega), catLok (by simp only [List.length_nil, List.length_map]; omega), Option.bind_some, List.nil_append, facet_sort F _ (by omega)]; rfl
end Go.Fk
