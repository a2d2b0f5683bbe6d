/-
  The law of SegFew: a segment without one document. Of no program.
-/
import Derived.Test.YtdcmmhjhffcnhaaLawSegLong
import Derived.Test.YtdcmmhjhffcnhaaLawSegPosts
set_option linter.unusedVariables false
namespace Go.Fk
open Go

theorem rem2_ok {a b : Int} (hb : b ≠ 0) : remI a b = some (a.tmod b) := by unfold remI; rw [if_neg hb]
def without (docs : List GDoc) (k : Nat) : List GDoc := docs.take k ++ docs.drop (k + 1)
theorem without_sub (docs : List GDoc) (k : Nat) : (without docs k).Sublist docs := by
  unfold without
  have h := List.take_append_drop k docs
  conv => rhs; rw [← h]
  refine List.Sublist.append (List.Sublist.refl _) ?_
  rw [show docs.drop (k + 1) = (docs.drop k).drop 1 by rw [List.drop_drop]]
  exact List.drop_sublist 1 _
theorem pairS_of {α : Type} {ok : α → Bool} {lt : α → α → Bool} {xs : List α} (h1 : ∀ x ∈ xs, ok x = true) (h2 : xs.Pairwise fun a b => lt a b = true) : pairS ok lt xs = true := by
  unfold pairS
  rw [List.all_eq_true]
  rintro ⟨x, i⟩ hq
  obtain ⟨j, hj⟩ := List.mem_iff_getElem?.1 hq
  obtain ⟨k1, k2⟩ := zipAt hj
  simp only at k1 k2
  subst k2
  obtain ⟨hi, he⟩ := List.getElem?_eq_some_iff.1 k1
  unfold pairP
  simp only
  rw [h1 x (List.mem_of_getElem? k1), Bool.true_and]
  rcases Nat.eq_zero_or_pos i with rfl | hp
  · rfl
  · have hl : i - 1 < xs.length := by omega
    rw [List.getElem?_eq_getElem hl]
    have := List.pairwise_iff_getElem.1 h2 (i - 1) i hl hi (by omega)
    rw [he] at this
    simp [this]
theorem docs_sub {docs ds : List GDoc} (h : docsS docs = true) (hs : ds.Sublist docs) : docsS ds = true := by
  have hall := docs_all h
  have hids := (docs_ids h).2.2
  have hl := hs.length_le
  unfold docsS
  rw [pairS_of (lt := docLt) (fun d hd => hall.2 d (hs.subset hd)) ((hids.sublist hs).imp fun {a b} k => decide_eq_true k), decide_eq_true (by have := hall.1; omega)]; rfl
def keepP (id : Int) (p : GPost) : List GPost := if !(p.Doc == id) then [p] else []
theorem keep_one (id : Int) (p : GPost) : (keepP id p).length ≤ 1 := by unfold keepP; split <;> simp
theorem keep_docPost (c : GConf) (n t : Str) (id : Int) (d : GDoc) : (docPost c n t d).flatMap (keepP id) = if d.Id == id then [] else docPost c n t d := by
  unfold docPost
  by_cases h0 : 0 < (postS c d n t).length
  · rw [decide_eq_true h0, if_pos rfl, List.flatMap_cons, List.flatMap_nil, List.append_nil]
    unfold keepP
    simp only
    rw [if_bif, if_bif]
    cases d.Id == id <;> rfl
  · rw [decide_eq_false h0, if_neg (by simp)]
    simp
theorem keep_all (c : GConf) (n t : Str) {docs : List GDoc} (hp : docs.Pairwise fun a b => a.Id < b.Id) {k : Nat} (hk : k < docs.length) : (docs.flatMap (docPost c n t)).flatMap (keepP docs[k].Id) = (without docs k).flatMap (docPost c n t) := by
  have hlt := List.pairwise_iff_getElem.1 hp
  have hsplit : docs = docs.take k ++ docs[k] :: docs.drop (k + 1) := by
    rw [← List.drop_eq_getElem_cons hk, List.take_append_drop]
  have hA : ∀ d ∈ docs.take k, (d.Id == docs[k].Id) = false := fun d hd => by
    obtain ⟨i, hi, rfl⟩ := List.mem_iff_getElem.1 hd
    rw [List.length_take] at hi
    rw [List.getElem_take]
    exact beq_eq_false_iff_ne.2 (by have := hlt i k (by omega) hk (by omega); omega)
  have hB : ∀ d ∈ docs.drop (k + 1), (d.Id == docs[k].Id) = false := fun d hd => by
    obtain ⟨i, hi, rfl⟩ := List.mem_iff_getElem.1 hd
    rw [List.length_drop] at hi
    rw [List.getElem_drop]
    exact beq_eq_false_iff_ne.2 (by have := hlt k (k + 1 + i) hk (by omega) (by omega); omega)
  have gen : ∀ l : List GDoc, (∀ d ∈ l, (d.Id == docs[k].Id) = false) → (l.flatMap (docPost c n t)).flatMap (keepP docs[k].Id) = l.flatMap (docPost c n t) := by
    intro l
    induction l with
    | nil => intro _; rfl
    | cons d l ih =>
      intro h
      rw [List.flatMap_cons, List.flatMap_append, keep_docPost, h d (by simp), if_neg (by simp), ih fun e he => h e (by simp [he])]
  have e1 : docs.flatMap (docPost c n t) = (docs.take k).flatMap (docPost c n t) ++ (docPost c n t docs[k] ++ (docs.drop (k + 1)).flatMap (docPost c n t)) := by
    conv => lhs; rw [hsplit]
    rw [List.flatMap_append, List.flatMap_cons]
  rw [e1, List.flatMap_append, List.flatMap_append, gen _ hA, gen _ hB, keep_docPost, beq_self_eq_true, if_pos rfl, List.nil_append]
  unfold without
  rw [List.flatMap_append]
theorem posts_some {c : GConf} {docs : List GDoc} {n t : Str} : 0 < (docs.flatMap (docPost c n t)).length ↔ entryS c docs n t ∈ (segS c docs).Entries := by
  constructor
  · intro h
    obtain ⟨p, hp⟩ := List.exists_mem_of_length_pos h
    obtain ⟨d, hd, hp⟩ := List.mem_flatMap.1 hp
    unfold docPost at hp
    split at hp
    · rename_i h0
      obtain ⟨a, ha⟩ := List.exists_mem_of_length_pos (of_decide_eq_true h0)
      obtain ⟨x, hx, hxa⟩ := List.mem_flatMap.1 ha
      have ht : x.Text = t := by
        split at hxa
        · rename_i k; exact eq_of_beq k
        · cases hxa
      subst ht
      exact entry_in.2 (term_in hd hx)
    · cases hp
  · intro h
    exact entry_posts h
theorem names_sub {docs ds : List GDoc} (hs : ds.Sublist docs) {n : Str} (h : n ∈ namesS ds) : n ∈ namesS docs := by
  obtain ⟨d, hd, f, hf, e⟩ := mem_names.1 h
  exact mem_names.2 ⟨d, hs.subset hd, f, hf, e⟩
theorem fterms_sub {c : GConf} {docs ds : List GDoc} (hs : ds.Sublist docs) {n t : Str} (h : t ∈ ftermsS c ds n) : t ∈ ftermsS c docs n := by
  obtain ⟨d, hd, x, hx, e⟩ := mem_fterms.1 h
  exact mem_fterms.2 ⟨d, hs.subset hd, x, hx, e⟩
def someP (c : GConf) (ds : List GDoc) (e : GEntry) : Bool := decide (0 < (ds.flatMap (docPost c e.Field e.Term)).length)
theorem count_few (c : GConf) {docs ds : List GDoc} (hs : ds.Sublist docs) : ((segS c docs).Entries.filter (someP c ds)).length = (segS c ds).Entries.length := by
  have : ((segS c docs).Entries.filter (someP c ds)).map (fun e => entryS c ds e.Field e.Term) = (segS c ds).Entries := by
    refine sorted_same ltE_irr ltE_tr ?_ (segS_sorted c ds) fun x => ?_
    · exact List.pairwise_map.2 (((segS_sorted c docs).sublist List.filter_sublist).imp fun {a b} h => h)
    · rw [List.mem_map]
      constructor
      · rintro ⟨e, he, rfl⟩
        obtain ⟨_, h2⟩ := List.mem_filter.1 he
        exact posts_some.1 (of_decide_eq_true h2)
      · intro hx
        have e1 := mem_seg hx
        have hk : entryS c ds x.Field x.Term ∈ (segS c ds).Entries := e1 ▸ hx
        obtain ⟨h1, h2⟩ := entry_in.1 hk
        refine ⟨entryS c docs x.Field x.Term, List.mem_filter.2 ⟨entry_in.2 ⟨names_sub hs h1, fterms_sub hs h2⟩, ?_⟩, e1.symm⟩
        exact decide_eq_true (posts_some.2 hk)
  rw [← this, List.length_map]
theorem sum_count {α : Type} (p : α → Bool) : ∀ l : List α, (l.map fun x => if p x then 1 else 0).sum = (l.filter p).length
  | [] => rfl
  | x :: l => by
    rw [List.map_cons, List.sum_cons, sum_count p l, List.filter_cons]
    cases p x
    · simp
    · simp; omega
theorem law_segFew (code more : List UInt8) : ∃ F, M.laws_FnSegFew F code more = some true := by
  refine ⟨1000000, ?_⟩
  generalize hF : 1000000 = F
  unfold M.laws_FnSegFew
  by_cases hsz : (1048576 : Int) < (code.length : Int)
  · rw [decide_eq_true hsz]; rfl
  rw [decide_eq_false hsz, cond_false, Option.bind_some]
  by_cases hsm : (1048576 : Int) < (more.length : Int)
  · rw [decide_eq_true hsm]; rfl
  rw [decide_eq_false hsm, cond_false]
  obtain ⟨c, docs, hw, hc, hd⟩ := drawSegOf_ok F code (by omega)
  have hl := hd.few
  have hst := hc.stops.1
  rw [hw, Option.bind_some]
  dsimp only
  obtain ⟨f1, f2⟩ := segOf_fits c docs
  have hfo := foSeg_same F (segOf c docs) f1 f2 (by omega)
  have hdl := f1.few
  rw [impl_segOf F c docs (by omega) (by omega) (by omega), Option.bind_some, spec_segOf F 100 c docs hd hc (by omega) (by omega), Option.bind_some, Option.bind_some, hfo, Option.bind_some, Bool.not_true, cond_false, impl_ok F c _ (by omega) (by omega) (by omega), Option.bind_some, impl_docs F docs (by omega)]
  cases hso : segOk c (segOf c docs)
  · rfl
  rw [Bool.not_true, cond_false]
  rcases Nat.eq_zero_or_pos docs.length with hz | hpos
  · rw [show ((docs.length : Int) == 0) = true from beq_iff_eq.2 (by omega)]; rfl
  rw [show ((docs.length : Int) == 0) = false from beq_eq_false_iff_ne.2 (by omega), cond_false, Option.bind_some]
  cases hds : docsS docs
  · rfl
  have hcs : confS c = true := (seg_is hso).1
  have e : segOf c docs = segS c docs := by unfold segOf; rw [hcs, hds]; rfl
  rw [e] at f2 ⊢
  have hln := f2.1
  rw [Bool.not_true, cond_false, show (((segS c docs).Docs.length : Int) == 0) = false from beq_eq_false_iff_ne.2 (by show (docs.length : Int) ≠ 0; omega), Option.bind_some, cond_false, rem2_ok (by omega), Option.bind_some]
  obtain ⟨k, hk⟩ : ∃ k : Nat, ((more.length : Int).tmod (docs.length : Int)) = (k : Int) := ⟨((more.length : Int).tmod (docs.length : Int)).toNat, by
    have := Int.tmod_nonneg (docs.length : Int) (show (0 : Int) ≤ more.length by omega); omega⟩
  have hkl : k < docs.length := by
    have := Int.tmod_lt_of_pos (more.length : Int) (show (0 : Int) < docs.length by omega); omega
  rw [hk]
  have hs := without_sub docs k
  have hds' := docs_sub hds hs
  have hl' := hs.length_le
  have c1 : subL docs 0 ((k : Nat) : Int) = some (docs.take k) := by
    unfold subL
    rw [if_pos ⟨by omega, by omega, by omega⟩]
    simp
  have e' : segOf c (without docs k) = segS c (without docs k) := by unfold segOf; rw [hcs, hds']; rfl
  have hcat : catL 56 (docs.take k) (docs.drop (k + 1)) = some (without docs k) := catLok (by rw [List.length_take, List.length_drop]; omega)
  rw [c1, Option.bind_some, w64_succ' (by omega), subL_tail (by omega), Option.bind_some, catLok (by simp only [List.length_nil, List.length_take]; omega), List.nil_append, Option.bind_some, hcat, Option.bind_some, impl_segOf F c _ (by omega) (by omega) (by omega), Option.bind_some, Option.bind_some, e']
  have hok' := seg_self hcs hds'
  have hids := (docs_ids hds).2.2
  rw [(fold_while (xs := (segS c docs).Entries) (fun a e => a + if someP c (without docs k) e then 1 else 0) (fun i (a : Nat) => a ≤ i) (fun a => (Sum.inl (a : Int) : Int ⊕ Bool)) (fun a i => ((a : Int), i)) (s0 := ((0 : Int), (0 : Int))) 0 rfl F (by omega) (by simp) (fun i x a hx ha => ?_) (fun a ha => ?_)).1, foldl_sum, sum_count, count_few c hs]
  · rw [Nat.zero_add]
    simp
  · have hi := (List.getElem?_eq_some_iff.1 hx).1
    have hxm := List.mem_of_getElem? hx
    have hp := f2.2 x hxm
    have hpl := hp.1
    refine ⟨?_, by split <;> omega⟩
    simp only
    rw [decide_eq_true (by omega), cond_true, getI_nat', hx, Option.bind_some]
    have hkeep : x.Posts.flatMap (keepP docs[k].Id) = (without docs k).flatMap (docPost c x.Field x.Term) := by
      have := keep_all c x.Field x.Term hids hkl
      have hxe := mem_seg hxm
      rw [← this]
      conv => lhs; rw [hxe]
      rfl
    have hkl2 := flat_le (g := keepP docs[k].Id) (m := 1) x.Posts fun p _ => keep_one _ p
    have hkf : (x.Posts.flatMap (keepP docs[k].Id)).length ≤ 10000 ∧ ∀ p ∈ x.Posts.flatMap (keepP docs[k].Id), p.At.length ≤ 10000 := ⟨by omega, fun p hpm => by
      obtain ⟨q, hq, hm⟩ := List.mem_flatMap.1 hpm
      unfold keepP at hm
      split at hm
      · rw [List.mem_singleton] at hm; subst hm; exact hp.2 p hq
      · cases hm⟩
    rw [fm_while (xs := x.Posts) (keepP docs[k].Id) 10000 F (by omega) (fun j p acc hxj hB => ?_) (fun acc => ?_) [] (by rw [List.nil_append]; omega), List.nil_append, Option.bind_some, Option.bind_some]
    · rw [impl_segPosts F c _ _ _ (by show (without docs k).length < _; omega) (by omega) (by omega), Option.bind_some, hok', if_pos rfl, postsAt_seg, ← hkeep, foPosts_same F _ hkf (by omega), Option.bind_some, Bool.not_true, cond_false, w64_succ' (by omega)]
      unfold someP
      rw [← hkeep, if_bif]
      by_cases h0 : 0 < (x.Posts.flatMap (keepP docs[k].Id)).length
      · rw [decide_eq_true (by omega), cond_true, decide_eq_true h0, cond_true, w64_succ' (by omega)]
      · rw [decide_eq_false (by omega), cond_false, decide_eq_false h0, w64_succ' (by omega)]; rfl
    · have hj := (List.getElem?_eq_some_iff.1 hxj).1
      rw [decide_eq_true (by omega), cond_true, getI_nat', hxj, Option.bind_some, getI_nat', List.getElem?_eq_getElem hkl, Option.bind_some, Option.bind_some, w64_succ' (by omega)]
      unfold keepP at hB ⊢
      revert hB
      rw [if_bif]
      cases p.Doc == docs[k].Id
      · intro hB
        simp only [Bool.not_false, cond_true] at hB ⊢
        rw [catLok (by simp at hB ⊢; omega)]; rfl
      · intro _; simp
    · rw [decide_eq_false (by omega)]; rfl
  · simp only
    rw [decide_eq_false (by omega)]; rfl
end Go.Fk
