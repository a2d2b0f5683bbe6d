/-
  The law of SegPosts. Of no program.
-/
import Derived.Test.YtdcmmhjhffcnhaaGreatLawSegPosts
import Derived.Test.YtdcmmhjhffcnhaaGreatLawField
set_option linter.unusedVariables false
namespace Go.Fk
open Go

theorem spec_findPosts (F : Nat) (s : GSeg) (n t : Str) (hl : s.Entries.length ≤ 10000) (hF : 20000 < F) : M.spec_l7Posts F s n t = some (postsAt s n t) := by
  unfold M.spec_l7Posts postsAt
  rw [find_while (xs := s.Entries) (keyP n t) (fun e => (Sum.inr e.Posts : Unit ⊕ List GPost)) (e := Sum.inl ()) F (by omega) (fun i x hx => ?_) ?_]
  · cases s.Entries.find? (keyP n t) <;> rfl
  · rw [decide_eq_false (by omega)]; rfl
  · have hi := (List.getElem?_eq_some_iff.1 hx).1
    rw [decide_eq_true (by omega), cond_true, getI_nat', hx, Option.bind_some, Option.bind_some, Option.bind_some, w64_succ' (by omega)]
    unfold keyP
    rw [if_bif]
    cases x.Field == n
    · rfl
    · cases x.Term == t <;> rfl
theorem spec_copyPosts (F : Nat) (l : List GPost) (h : l.length ≤ 10000 ∧ ∀ p ∈ l, p.At.length ≤ 10000) (hF : 20000 < F) : M.spec_l7CopyPosts F l = some l := by
  have hl := h.1
  unfold M.spec_l7CopyPosts
  rw [fm_while (xs := l) (fun p : GPost => [p]) 10000 F (by omega) (fun i p acc hx hB => ?_) (fun acc => ?_) [] (by rw [List.nil_append]; simp; omega)]
  · simp
  · have hi := (List.getElem?_eq_some_iff.1 hx).1
    have := h.2 p (List.mem_of_getElem? hx)
    rw [decide_eq_true (by omega), cond_true, getI_nat', hx, Option.bind_some, Option.bind_some, catLok (by simp only [List.length_nil]; omega), Option.bind_some, List.nil_append, catLok (by simp at hB ⊢; omega), Option.bind_some, w64_succ' (by omega)]
  · rw [decide_eq_false (by omega)]; rfl
theorem postsAt_fits {c : GConf} {s : GSeg} (ho : segOk c s = true) (n t : Str) : (postsAt s n t).length ≤ 10000 ∧ ∀ p ∈ postsAt s n t, p.At.length ≤ 10000 := by
  obtain ⟨h1, h2, h3⟩ := seg_is ho
  have hfit : Fits 10000 s.Entries := by rw [h3]; exact (seg_fits h2).le (by omega)
  unfold postsAt
  cases hf : s.Entries.find? (keyP n t) with
  | none => exact ⟨Nat.zero_le _, fun p hp => by cases hp⟩
  | some e => exact hfit.2 e (List.mem_of_find?_eq_some hf)
theorem spec_segPosts (F : Nat) (c : GConf) (s : GSeg) (n t : Str) (hd : DocsFit s.Docs) (hc : ConfFit 100 c) (hF : 300000 < F) : M.spec_SegPosts F c s n t = some (if segOk c s then postsAt s n t else []) := by
  unfold M.spec_SegPosts
  rw [spec_ok F 100 c s hd hc (by omega) (by omega), Option.bind_some]
  cases ho : segOk c s
  · rfl
  obtain ⟨h1, h2, h3⟩ := seg_is ho
  have hfit : Fits 10000 s.Entries := by rw [h3]; exact (seg_fits h2).le (by omega)
  rw [Bool.not_true, cond_false, spec_findPosts F s n t hfit.1 (by omega), Option.bind_some, spec_copyPosts F _ (postsAt_fits ho n t) (by omega)]; rfl
theorem drawSegPosts_ok (F : Nat) (code : List UInt8) (hF : 200000 < F) : ∃ c s n t, M.spec_DrawSegPosts F code = some (c, s, n, t) ∧ ConfFit 100 c ∧ DocsFit s.Docs := by
  unfold M.spec_DrawSegPosts
  obtain ⟨r, hr, h1, h2⟩ := open_ok F code
  rw [hr, Option.bind_some]
  obtain ⟨c, s, p, hs, ⟨p0, p1⟩, hcd, hsf, _⟩ := anySeg_ok F r ⟨h1, by omega, by omega⟩ hF
  rw [hs, Option.bind_some]
  dsimp only
  obtain ⟨n, q, hn, ⟨q0, q1⟩, _⟩ := lfield_ok F ⟨r.b_, p⟩ ⟨h1, by simp only; omega, by simp only; omega⟩
  simp only at q0 q1
  rw [hn, Option.bind_some]
  dsimp only
  obtain ⟨t, _, ht⟩ := of_ok F ⟨r.b_, q⟩ [[99, 97, 116], [100, 111, 103], [114, 117, 110], [110, 121], [110, 101, 119], [102, 111, 120], [122, 122], [108, 97, 114, 103]] ⟨h1, by simp only; omega, by simp only; omega⟩ (by simp)
  rw [ht, Option.bind_some]
  exact ⟨_, _, _, _, rfl, hcd.fit, hsf⟩
theorem spec_segOk (F : Nat) (c : GConf) (s : GSeg) (hd : DocsFit s.Docs) (hc : ConfFit 100 c) (hF : 300000 < F) : M.spec_SegOk F c s = some (segOk c s) := by
  unfold M.spec_SegOk
  rw [spec_ok F 100 c s hd hc (by omega) (by omega)]; rfl
theorem law_segPosts (code : List UInt8) : ∃ F, M.laws_FnSegPosts F code = some true := by
  refine ⟨1000000, ?_⟩
  generalize hF : 1000000 = F
  unfold M.laws_FnSegPosts
  cases decide ((1048576 : Int) < (code.length : Int))
  case true => rfl
  obtain ⟨c, s, n, t, hw, hc, hd⟩ := drawSegPosts_ok F code (by omega)
  have hl := hd.few
  have hst := hc.stops.1
  rw [cond_false, hw, Option.bind_some]
  dsimp only
  have hP : (if segOk c s then postsAt s n t else ([] : List GPost)).length ≤ 10000 ∧ ∀ p ∈ (if segOk c s then postsAt s n t else ([] : List GPost)), p.At.length ≤ 10000 := by
    cases ho : segOk c s
    · exact ⟨Nat.zero_le _, fun p hp => by cases hp⟩
    · exact postsAt_fits ho n t
  have hfo := foPosts_same F _ hP (by omega)
  rw [impl_segPosts F c s n t (by omega) (by omega) (by omega), Option.bind_some, spec_segPosts F c s n t hd hc (by omega), Option.bind_some, Option.bind_some, hfo, Option.bind_some, Bool.not_true, cond_false, impl_ok F c s (by omega) (by omega) (by omega), Option.bind_some, spec_segOk F c s hd hc (by omega), Option.bind_some, Option.bind_some, beq_self_eq_true, Bool.not_true, cond_false]
  cases ho : segOk c s
  · rfl
  obtain ⟨h1, h2, h3⟩ := seg_is ho
  rw [ho, if_pos rfl] at hP
  rw [if_pos rfl, Bool.not_true, Option.bind_some, cond_false]
  have hpost : postsAt s n t = s.Docs.flatMap (docPost c n t) := by
    have := postsAt_seg c s.Docs n t
    rwa [← h3] at this
  obtain ⟨P, hPe⟩ : ∃ P, P = postsAt s n t := ⟨_, rfl⟩
  rw [← hPe] at hP hpost ⊢
  have hPl := hP.1
  have loop := fold_while (xs := s.Docs) (fun a d => a + (docPost c n t d).length) (fun i (a : Nat) => a = ((s.Docs.take i).flatMap (docPost c n t)).length) (fun a => (Sum.inl (a : Int) : Int ⊕ Bool)) (fun a i => ((a : Int), i)) (s0 := ((0 : Int), (0 : Int)))
    (f := fun (s185 : Int × Int) => (cond (decide (s185.2 < (s.Docs.length : Int))) (Option.bind (getI s.Docs s185.2) fun x208 => (Option.bind (M.impl_DocField F x208 n) fun r226 => (Option.bind (M.impl_TermsOf F c r226) fun r235 => (Option.bind ((Option.bind (whileM (σ := (List Int) × Int) (τ := (List Int)) (fun (s258 : (List Int) × Int) => (cond (decide (s258.2 < (r235.length : Int))) (Option.bind (getI r235 s258.2) fun x280 => (cond (x280.Text == t) (Option.bind (getI r235 s258.2) fun x293 => (Option.bind (catL 8 s258.1 ([x293.At] : List Int)) fun x311 => (some (.inl (x311, (w64 (s258.2 + (1 : Int)))))))) (some (.inl (s258.1, (w64 (s258.2 + (1 : Int)))))))) (some (.inr s258.1)))) F (([] : List Int), (0 : Int))) fun r259 => (some r259)) : Option (List Int)) fun o247 => (Option.bind ((cond (decide ((0 : Int) < (o247.length : Int))) (cond (decide ((P.length : Int) ≤ s185.1)) (some true) (Option.bind (getI P s185.1) fun x341 => (Option.bind (getI s.Docs s185.2) fun x355 => (cond (!(x341.Doc == x355.Id)) (some true) (Option.bind (getI P s185.1) fun x379 => (Option.bind (M.laws_foInts F x379.At o247) fun r393 => (some (!r393)))))))) (some false)) : Option Bool) fun o326 => (cond o326 (some (.inr (.inr false))) (cond (decide ((0 : Int) < (o247.length : Int))) (some (.inl ((w64 (s185.1 + (1 : Int))), (w64 (s185.2 + (1 : Int)))))) (some (.inl (s185.1, (w64 (s185.2 + (1 : Int))))))))))))) (some (.inr (.inl s185.1)))))
    0 rfl F (by omega) (by simp) (fun i d a hx ha => ?_) (fun a ha => ?_)
  · obtain ⟨k1, k2⟩ := loop
    rw [k1]
    simp only [Option.bind_some, Sum.elim_inl]
    rw [k2, List.take_of_length_le (Nat.le_refl _), ← hpost, beq_self_eq_true]
  · have hi := (List.getElem?_eq_some_iff.1 hx).1
    have hds := (docs_all h2).2 d (List.mem_of_getElem? hx)
    have hft := field_text hds n
    have h3' := text_len hft
    have htl := terms_len c (fieldS d n)
    have hdp1 := docPost_one c n t d
    have htake : (s.Docs.take (i + 1)).flatMap (docPost c n t) = (s.Docs.take i).flatMap (docPost c n t) ++ docPost c n t d := by
      rw [List.take_add_one, hx]; simp
    have hwhole : P = (s.Docs.take i).flatMap (docPost c n t) ++ (docPost c n t d ++ (s.Docs.drop (i + 1)).flatMap (docPost c n t)) := by
      have : s.Docs = s.Docs.take i ++ d :: s.Docs.drop (i + 1) := by
        have hge : d = s.Docs[i] := by rw [List.getElem?_eq_getElem hi] at hx; exact (Option.some.inj hx).symm
        rw [hge, ← List.drop_eq_getElem_cons hi, List.take_append_drop]
      rw [hpost]
      conv => lhs; rw [this]
      rw [List.flatMap_append, List.flatMap_cons]
    have hale : a ≤ P.length := by rw [hwhole, List.length_append]; omega
    refine ⟨?_, by rw [htake, List.length_append]; omega⟩
    simp only
    rw [decide_eq_true (by omega), cond_true, getI_nat', hx, Option.bind_some, impl_docField, hds, if_pos rfl, Option.bind_some, impl_terms F c _ (by omega) (by omega) (by omega), h1, hft, Bool.true_and, if_pos rfl, Option.bind_some]
    rw [fm_while (xs := termsS c (fieldS d n)) (fun x : GTerm => if x.Text == t then [x.At] else []) 1000 F (by omega) (fun j x acc hxj hB => ?_) (fun acc => ?_) [] (by
      rw [List.nil_append]
      have := flat_le (g := fun x : GTerm => if x.Text == t then [x.At] else []) (m := 1) (termsS c (fieldS d n)) (fun x _ => by split <;> simp)
      omega), List.nil_append, Option.bind_some, Option.bind_some]
    · have hfold : ((termsS c (fieldS d n)).flatMap fun x : GTerm => if x.Text == t then [x.At] else []) = postS c d n t := rfl
      rw [hfold, w64_succ' (by omega)]
      by_cases h0 : 0 < (postS c d n t).length
      · have hdp : docPost c n t d = [⟨d.Id, postS c d n t⟩] := by unfold docPost; rw [decide_eq_true h0, if_pos rfl]
        rw [hdp] at hwhole
        have hat : P[a]? = some ⟨d.Id, postS c d n t⟩ := by
          rw [hwhole, ha, List.getElem?_append_right (Nat.le_refl _), Nat.sub_self]; rfl
        have hal : a < P.length := (List.getElem?_eq_some_iff.1 hat).1
        have hpl : (postS c d n t).length ≤ 10000 := hP.2 _ (List.mem_of_getElem? hat)
        rw [decide_eq_true (by omega), cond_true, decide_eq_false (by omega), cond_false, getI_nat', hat, Option.bind_some, Option.bind_some, beq_self_eq_true, Bool.not_true, cond_false, Option.bind_some, foInts_same F (postS c d n t) (by omega) (by omega), Option.bind_some, Option.bind_some, Bool.not_true, cond_false, cond_true, w64_succ' (by omega), hdp]
        rfl
      · have hdp : docPost c n t d = [] := by unfold docPost; rw [decide_eq_false h0, if_neg (by simp)]
        rw [decide_eq_false (by omega), cond_false, Option.bind_some, cond_false, cond_false, hdp, w64_succ' (by omega)]; rfl
    · have hj := (List.getElem?_eq_some_iff.1 hxj).1
      rw [decide_eq_true (by omega), cond_true, getI_nat', hxj, Option.bind_some, Option.bind_some, w64_succ' (by omega)]
      revert hB
      rw [if_bif]
      cases x.Text == t
      · intro _; simp
      · intro hB
        simp only [cond_true] at hB ⊢
        rw [catLok (by simp at hB ⊢; omega)]; rfl
    · rw [decide_eq_false (by omega)]; rfl
  · simp only
    rw [decide_eq_false (by omega)]; rfl
end Go.Fk
