/-
  With bounds it looks at no more than all, and at no fewer than it tells: the law holds for every code.
-/
import Derived.Test.YtoeajphlomankaaGreatDoorLawBT
set_option linter.unusedVariables false
set_option maxRecDepth 100000
namespace Go.Fk
open Go
theorem while_maps {c : GConf} {s : GSeg} {n : Str} {ts : List Str} (hl : ts.length ≤ 100) (F : Nat) (hF : 1000 < F) {f : List (List GBlock) × Int → Option ((List (List GBlock) × Int) ⊕ List (List GBlock))}
  (hf : ∀ (i : Nat) t acc, ts[i]? = some t → acc.length ≤ 100 → f (acc, (i : Int)) = some (.inl (acc ++ [blk (psS c s n t)], ((i + 1 : Nat) : Int)))) (h0 : ∀ acc, f (acc, (ts.length : Int)) = some (.inr acc)) :
  whileM f F (([] : List (List GBlock)), (0 : Int)) = some (ts.map fun t => blk (psS c s n t)) := by
 have h := fold_while (xs := ts) (fun acc t => acc ++ [blk (psS c s n t)]) (fun i acc => acc = (ts.take i).map fun t => blk (psS c s n t)) (fun acc => acc) (fun acc i => (acc, i)) (f := f) (s0 := (([] : List (List GBlock)), (0 : Int))) [] rfl F (by omega) (by simp) (fun i t acc hx hacc => ?_) (fun acc _ => h0 acc)
 ·rw [h.1, h.2, List.take_length]
 ·have hi := (List.getElem?_eq_some_iff.1 hx).1
  refine ⟨hf i t acc hx (by rw [hacc, List.length_map, List.length_take]; omega), ?_⟩
  have e : ts[i] = t := (List.getElem?_eq_some_iff.1 hx).2
  rw [hacc, List.take_succ_eq_append_getElem hi, List.map_append, e]; rfl
theorem while_sum {ts : List Str} (g : Str → Int) (B : Int) (hB : B ≤ 1000000000) (hg : ∀ t ∈ ts, 0 ≤ g t ∧ g t ≤ B) (hl : ts.length ≤ 100) (F : Nat) (hF : 1000 < F) {σ σ' : Type} (mk : Int → Int → σ) (e : Int → σ') {f : σ → Option (σ ⊕ σ')}
  (hf : ∀ (i : Nat) t a, ts[i]? = some t → f (mk a (i : Int)) = some (.inl (mk (w64 (a + g t)) ((i + 1 : Nat) : Int)))) (h0 : ∀ a, f (mk a (ts.length : Int)) = some (.inr (e a))) :
  whileM f F (mk 0 0) = some (e (ts.map g).sum) := by
 have h := fold_while (xs := ts) (fun a t => a + g t) (fun i a => a = ((ts.take i).map g).sum) e (fun a i => mk a i) (f := f) (s0 := mk 0 0) 0 rfl F (by omega) (by simp) (fun i t a hx ha => ?_) (fun a _ => h0 a)
 ·rw [h.1, h.2, List.take_length]
 ·have hi := (List.getElem?_eq_some_iff.1 hx).1
  have et : ts[i] = t := (List.getElem?_eq_some_iff.1 hx).2
  have e1 : ((ts.take (i + 1)).map g).sum = ((ts.take i).map g).sum + g t := by rw [← et]; exact snoc_sum g ts i hi
  have hr := sum_rng (f := g) (B := B) (l := ts.take (i + 1)) fun x hx => hg x (List.mem_of_mem_take hx)
  have hl2 : ((ts.take (i + 1)).length : Int) ≤ 100 := by rw [List.length_take]; omega
  have hb : ((ts.take (i + 1)).length : Int) * B ≤ 100 * 1000000000 := by
   have h0 : 0 ≤ B := by have := hg t (List.mem_of_getElem? hx); omega
   exact Int.mul_le_mul hl2 hB h0 (by omega)
  refine ⟨?_, by rw [e1, ← ha]⟩
  rw [hf i t a hx, w64_of ⟨by rw [ha, ← e1]; omega, by rw [ha, ← e1]; omega⟩]
theorem spec_most (F : Nat) (l : List GBlock) (id : Int) (hl : l.length ≤ 100000) (hF : 100000 < F) : M.spec_l14Most F l id = some (boundS l id) := by
 unfold M.spec_l14Most boundS
 rw [find_while (xs := l) (fun b => decide (id ≤ b.Last)) (fun b => (.inr b.Most : Unit ⊕ Int)) (e := .inl ()) F (by omega) (fun i x hx => ?_) ?_]
 ·cases l.find? (fun b => decide (id ≤ b.Last)) <;> rfl
 ·rw [decide_eq_false (by omega)]; rfl
 ·have hi := (List.getElem?_eq_some_iff.1 hx).1
  rw [decide_eq_true (by omega), cond_true, getI_nat', hx, Option.bind_some, Option.bind_some, w64_succ' (by omega)]
  cases decide (id ≤ x.Last) <;> rfl
theorem skip_spec (bnd : Int) (hits : List GHit) (m : Nat) (hm : 1 ≤ m) (hl : hits.length ≤ m) (hb : m ≤ 16) : (cond (bnd == (0 : Int)) (some true) (cond ((hits.length : Int) == (m : Int)) (Option.bind (getI hits (w64 ((m : Int) - (1 : Int)))) fun x439 => (some (decide (bnd ≤ x439.Points)))) (some false))) = some (skipS bnd hits m) := by
 unfold skipS
 cases bnd == 0 with
 | true => rfl
 | false =>
  rw [cond_false, Bool.false_or]
  by_cases h : hits.length = m
  ·rw [beq_iff_eq.2 (by omega), cond_true, w64_pred (by omega) (by omega), getI_nat', decide_eq_true h, Bool.true_and, List.getElem?_eq_getElem (show m - 1 < hits.length by omega)]; rfl
  ·rw [beq_eq_false_iff_ne.2 (by omega), decide_eq_false h]; rfl
theorem btWhile {c : GConf} {s : GSeg} (n : Str) (ts : List Str) {m : Nat} (k2 : docsS s.Docs = true) (hm : 1 ≤ m ∧ m ≤ 16) (F : Nat) (hF : 1000 < F) {f : List GHit × Int × Int → Option ((List GHit × Int × Int) ⊕ (List GHit × Int))}
  (hf : ∀ (i : Nat) d hits (looks : Nat), s.Docs[i]? = some d → i < s.Docs.length → i < 16 → (1 ≤ d.Id ∧ d.Id ≤ 9999) → HitsTo hits d.Id m → looks ≤ i → f (hits, (looks : Int), (i : Int)) = some (.inl ((fastStep c s n ts m (hits, looks) d).1, (((fastStep c s n ts m (hits, looks) d).2 : Nat) : Int), ((i + 1 : Nat) : Int))))
  (h0 : ∀ hits looks, f (hits, looks, (s.Docs.length : Int)) = some (.inr (hits, looks))) :
  whileM f F (([] : List GHit), (0 : Int), (0 : Int)) = some ((fastS c s n ts m).1, (((fastS c s n ts m).2 : Nat) : Int)) := by
 have hdl := (docs_ids k2).1
 obtain ⟨r, hr, he⟩ := whileM_run (σ := List GHit × Int × Int) (τ := List GHit × Int) (f := f) (Post := fun t => t = ((fastS c s n ts m).1, (((fastS c s n ts m).2 : Nat) : Int))) (fun i st => st = (((s.Docs.take i).foldl (fastStep c s n ts m) ([], 0)).1, ((((s.Docs.take i).foldl (fastStep c s n ts m) ([], 0)).2 : Nat) : Int), (i : Int))) s.Docs.length (fun i st hi hst => by
  subst hst
  have hinv := fast_at (c := c) n ts k2 hm i (by omega)
  have hid := (docs_ids k2).2.1 _ (List.getElem_mem hi)
  refine .inl ⟨_, hf i s.Docs[i] _ _ (List.getElem?_eq_getElem hi) hi (by omega) hid (hinv.to i hi (Nat.le_refl _)) hinv.looks, ?_⟩
  rw [List.take_succ_eq_append_getElem hi, List.foldl_append]; rfl) (fun st hst => by
  subst hst
  refine ⟨_, h0 _ _, ?_⟩
  rw [List.take_length]; rfl) s.Docs.length 0 (([] : List GHit), (0 : Int), (0 : Int)) F (by omega) (by omega) rfl
 rw [hr, he]
theorem spec_fast (F : Nat) (c : GConf) (s : GSeg) (n : Str) (ts : List Str) (m : Nat) (ho : segOk c s = true) (hm : 1 ≤ m ∧ m ≤ 16) (hl : ts.length ≤ 100) (hF : 1000000000 < F) : M.spec_l14Fast F c s n ts (m : Int) = some ((fastS c s n ts m).1, (((fastS c s n ts m).2 : Nat) : Int)) := by
 obtain ⟨k1, k2, k3⟩ := seg_is ho
 have hdl := (docs_ids k2).1
 unfold M.spec_l14Fast
 rw [while_maps (c := c) (s := s) (n := n) hl F (by omega) (fun i t acc hx hacc => ?_) (fun acc => ?_), Option.bind_some, Option.bind_some]
 ·rw [btWhile (c := c) (s := s) n ts k2 hm F (by omega) (fun i d hits looks hx hi h16 hid hto hlk => ?_) (fun hits looks => ?_), Option.bind_some, Option.bind_some]
  ·dsimp only
   rw [decide_eq_true (by omega), cond_true, getI_nat', hx, Option.bind_some]
   rw [while_sum (fun t => boundS (blk (psS c s n t)) d.Id) 1000000000 (by omega) (fun t _ => bound_rng (ps_rng ho n t) _) hl F (by omega) (fun a i => (a, i)) (fun a => a) (fun k t a hx => by
    have hk := (List.getElem?_eq_some_iff.1 hx).1
    dsimp only
    rw [decide_eq_true (by omega), cond_true, getI_nat', List.getElem?_map, hx, Option.map_some, Option.bind_some, spec_most F _ _ (by have := blk_short ho n t; omega) (by omega), Option.bind_some, w64_succ' (by omega)]) (fun a => by
    dsimp only
    rw [decide_eq_false (by omega)]; rfl), Option.bind_some, Option.bind_some]
   rw [show (ts.map fun t => boundS (blk (psS c s n t)) d.Id).sum = bndS c s n ts d.Id from rfl, skip_spec _ hits m hm.1 hto.most hm.2, Option.bind_some, w64_succ' (by omega)]
   unfold fastStep
   dsimp only
   cases skipS (bndS c s n ts d.Id) hits m with
   | true => rfl
   | false =>
    rw [cond_false, if_neg (by simp)]
    rw [while_sum (fun t => ((pointsS c s n t d.Id : Nat) : Int)) 1000000000 (by omega) (fun t _ => by have := points_le c s n t d.Id ho; omega) hl F (by omega) (fun a k => (k, GHit.mk d.Id a)) (fun a => GHit.mk d.Id a) (fun k t a hx => by
     have hk := (List.getElem?_eq_some_iff.1 hx).1
     dsimp only
     rw [decide_eq_true (by omega), cond_true, getI_nat', hx, Option.bind_some, spec_points F c s n t _ ho hF, Option.bind_some, w64_succ' (by omega)]) (fun a => by
     dsimp only
     rw [decide_eq_false (by omega)]; rfl), Option.bind_some, Option.bind_some]
    rw [show (ts.map fun t => ((pointsS c s n t d.Id : Nat) : Int)).sum = sumS c s n ts d.Id from rfl]
    dsimp only
    rw [w64_succ' (by omega)]
    have hfw := hto.most
    by_cases hp : 0 < sumS c s n ts d.Id
    ·rw [decide_eq_true hp, cond_true, if_pos hp, push_ok F hits _ m (by omega) (by omega)]; rfl
    ·rw [decide_eq_false hp, cond_false, if_neg hp]
  ·dsimp only
   rw [decide_eq_false (by omega)]; rfl
 ·have hi := (List.getElem?_eq_some_iff.1 hx).1
  dsimp only
  rw [decide_eq_true (by omega), cond_true, getI_nat', hx, Option.bind_some, spec_blocks F c s n t ho hF, Option.bind_some, catLok (by rw [List.length_singleton]; omega), Option.bind_some, w64_succ' (by omega)]
 ·dsimp only
  rw [decide_eq_false (by omega)]; rfl
theorem spec_allWords (F : Nat) (words : List Str) (hl : words.length ≤ 100) (hw : ∀ w ∈ words, w.length ≤ 1000) (hF : 3000 < F) : M.spec_l11Words F words 4 = some (words.all wordS && (decide (1 ≤ (words.length : Int)) && decide ((words.length : Int) ≤ 4))) := by
 unfold M.spec_l11Words
 rw [all_while0 (xs := words) wordS F (by omega) (fun i x hx => ?_) ?_]
 ·cases words.all wordS with
  | false => rfl
  | true =>
   show Option.bind (M.spec_l1In F (words.length : Int) 1 4) _ = _
   rw [inS]; rfl
 ·rw [decide_eq_false (by omega)]; rfl
 ·have hi := (List.getElem?_eq_some_iff.1 hx).1
  have hxl := hw x (List.mem_of_getElem? hx)
  rw [decide_eq_true (by omega), cond_true, getI_nat', hx, Option.bind_some, spec_word' F x 1000 hxl (by omega) (by omega), Option.bind_some, w64_succ' (by omega)]
  cases wordS x <;> rfl
theorem while_words {c : GConf} {words : List Str} (hl : words.length ≤ 100) (F : Nat) (hF : 1000 < F) {f : List Str × Int → Option ((List Str × Int) ⊕ List Str)}
  (hf : ∀ (i : Nat) w acc, words[i]? = some w → acc.length ≤ 100 → f (acc, (i : Int)) = some (.inl (newT c acc w, ((i + 1 : Nat) : Int)))) (h0 : ∀ acc, f (acc, (words.length : Int)) = some (.inr acc)) :
  whileM f F (([] : List Str), (0 : Int)) = some (uniqT c words) := by
 have h := fold_while (xs := words) (newT c) (fun i acc => acc.length ≤ i) (fun acc => acc) (fun acc i => (acc, i)) (f := f) (s0 := (([] : List Str), (0 : Int))) [] rfl F (by omega) (by simp) (fun i w acc hx hacc => ?_) (fun acc _ => h0 acc)
 ·rw [h.1]; rfl
 ·have hi := (List.getElem?_eq_some_iff.1 hx).1
  refine ⟨hf i w acc hx (by omega), ?_⟩
  unfold newT
  split
  ·rw [List.length_append, List.length_singleton]; omega
  ·omega
theorem spec_boundTop (F : Nat) (c : GConf) (s : GSeg) (n : Str) (words : List Str) (most : Int) (hd : DocsFit s.Docs) (hc : ConfFit 100 c) (hn : n.length ≤ 1000) (hw : words.length ≤ 50) (hwl : ∀ w ∈ words, w.length ≤ 1000) (hF : 1000000000 < F) : M.spec_BoundTop F c s n words most = some (boundTopS c s n words most) := by
 unfold M.spec_BoundTop boundTopS
 have hok : ((Option.bind (M.spec_l7Ok F c s) fun r38 => (cond (!r38) (some true) (Option.bind (M.spec_l1WordOk F n) fun r49 => (cond (!r49) (some true) (Option.bind (M.spec_l11Words F words (4 : Int)) fun r60 => (cond (!r60) (some true) (Option.bind (M.spec_l1In F most (1 : Int) (16 : Int)) fun r71 => (some (!r71))))))))) : Option Bool) = some (!((segOk c s && (wordS n && ((decide (1 ≤ (words.length : Int)) && decide ((words.length : Int) ≤ 4)) && (decide (1 ≤ most) && decide (most ≤ 16))))) && words.all wordS)) := by
  rw [spec_ok F 100 c s hd hc (by omega) (by omega), Option.bind_some]
  cases segOk c s with
  | false => rfl
  | true =>
   rw [Bool.not_true, cond_false, spec_word' F n 1000 hn (by omega) (by omega), Option.bind_some]
   cases wordS n with
   | false => rfl
   | true =>
    rw [Bool.not_true, cond_false, spec_allWords F words (by omega) hwl (by omega), Option.bind_some, inS, Option.bind_some]
    cases words.all wordS <;> cases (decide (1 ≤ (words.length : Int)) && decide ((words.length : Int) ≤ 4)) <;> cases (decide (1 ≤ most) && decide (most ≤ 16)) <;> rfl
 rw [hok, Option.bind_some]
 cases hall : (segOk c s && (wordS n && ((decide (1 ≤ (words.length : Int)) && decide ((words.length : Int) ≤ 4)) && (decide (1 ≤ most) && decide (most ≤ 16))))) && words.all wordS with
 | false => rfl
 | true =>
  simp only [Bool.and_eq_true, decide_eq_true_iff] at hall
  obtain ⟨⟨ho, hwn, ⟨hw1, hw2⟩, hm1, hm2⟩, hwa⟩ := hall
  obtain ⟨k1, k2, k3⟩ := seg_is ho
  rw [Bool.not_true, cond_false, if_pos rfl]
  rw [while_words (c := c) (words := words) (by omega) F (by omega) (fun i w acc hx hacc => ?_) (fun acc => ?_), Option.bind_some, Option.bind_some]
  ·have hul := uniq_len c words []
   have hul2 : (uniqT c words).length ≤ 4 := by
    unfold uniqT
    simp only [List.length_nil, Nat.zero_add] at hul; omega
   obtain ⟨m, rfl⟩ : ∃ m : Nat, most = (m : Int) := ⟨most.toNat, by omega⟩
   rw [Int.toNat_natCast, spec_fast F c s n _ m ho (by omega) (by omega) hF]; rfl
  ·have hi := (List.getElem?_eq_some_iff.1 hx).1
   have hws := List.all_eq_true.1 hwa w (List.mem_of_getElem? hx)
   dsimp only
   rw [decide_eq_true (by omega), cond_true, getI_nat', hx, Option.bind_some, spec_termOf F c w hc k1 hws (by omega), Option.bind_some, spec_has F acc _ (by omega) (by omega), w64_succ' (by omega)]
   unfold newT
   cases hte : termS c w == [] with
   | true => rfl
   | false =>
    simp only [Bool.not_false, cond_true, Option.bind_some, Bool.true_and]
    cases acc.any (· == termS c w) with
    | true => rfl
    | false =>
     simp only [Bool.not_false, cond_true, if_true]
     rw [catLok (by rw [List.length_singleton]; omega)]; rfl
  ·dsimp only
   rw [decide_eq_false (by omega)]; rfl
theorem btHits_self (F : Nat) (l : List GHit) (hl : l.length ≤ 1000) (hF : 2000 < F) : M.laws_foHits F l l = some true := by
 unfold M.laws_foHits
 rw [beq_self_eq_true, Bool.not_true, cond_false, clean0' (n := l.length) F (by omega) (fun i hi => ?_) ?_]
 ·rfl
 ·rw [decide_eq_false (by omega)]; rfl
 ·rw [decide_eq_true (by omega), cond_true, getI_at hi, Option.bind_some, Option.bind_some, beq_self_eq_true, beq_self_eq_true, w64_succ' (by omega)]; rfl
theorem looks_all {c : GConf} {s : GSeg} (n : Str) (ts : List Str) {m : Nat} (hd : docsS s.Docs = true) (hm : 1 ≤ m ∧ m ≤ 16) : ∀ i, i ≤ s.Docs.length → ((s.Docs.take i).foldl (fastStep c s n ts m) ([], 0)).2 ≤ ((s.Docs.take i).foldl (fastStep c s n ts 16) ([], 0)).2
 | 0, _ => Nat.le_refl _
 | i + 1, h => by
  have hi : i < s.Docs.length := by omega
  have ih := looks_all (c := c) n ts hd hm i (by omega)
  have h16 := fast_at (c := c) n ts hd (show 1 ≤ 16 ∧ 16 ≤ 16 by omega) i (by omega)
  have hdl := (docs_ids hd).1
  rw [List.take_succ_eq_append_getElem hi, List.foldl_append, List.foldl_append]
  show (fastStep c s n ts m _ s.Docs[i]).2 ≤ (fastStep c s n ts 16 _ s.Docs[i]).2
  generalize (s.Docs.take i).foldl (fastStep c s n ts m) ([], 0) = a at *
  generalize (s.Docs.take i).foldl (fastStep c s n ts 16) ([], 0) = b at *
  have hb : b.1.length < 16 := by have := h16.less; have := h16.looks; omega
  have hskip : skipS (bndS c s n ts s.Docs[i].Id) b.1 16 = (bndS c s n ts s.Docs[i].Id == 0) := by
   unfold skipS
   rw [decide_eq_false (by omega), Bool.false_and, Bool.or_false]
  unfold fastStep
  rw [hskip]
  cases hz : bndS c s n ts s.Docs[i].Id == 0 with
  | true =>
   have : skipS (bndS c s n ts s.Docs[i].Id) a.1 m = true := by unfold skipS; rw [hz]; rfl
   rw [if_pos this, if_pos rfl]; exact ih
  | false =>
   rw [if_neg (show ¬ (false = true) by simp)]
   split
   ·show a.2 ≤ b.2 + 1; omega
   ·show a.2 + 1 ≤ b.2 + 1; omega
theorem drawBoundTop_ok (F : Nat) (code : List UInt8) (hF : 200000 < F) : ∃ c s n words most, M.spec_DrawBoundTop F code = some (c, s, n, words, most) ∧ ConfFit 100 c ∧ DocsFit s.Docs ∧ n.length ≤ 10 ∧ words.length ≤ 10 ∧ ∀ w ∈ words, w.length ≤ 1000 := by
 unfold M.spec_DrawBoundTop
 obtain ⟨r, hr, h1, h2⟩ := open_ok F code
 rw [hr, Option.bind_some]
 obtain ⟨c, s, p, hs, ⟨p0, p1⟩, hcd, hsf, _⟩ := anySeg_ok F r ⟨h1, by omega, by omega⟩ hF
 rw [hs, Option.bind_some]
 dsimp only
 obtain ⟨k, hk, k0, k1⟩ := pick_ok F ⟨r.b_, p⟩ 5 ⟨h1, by simp only; omega, by simp only; omega⟩
 have k1 := k1 (by omega)
 rw [hk, Option.bind_some]
 dsimp only
 obtain ⟨k, rfl⟩ : ∃ kk : Nat, k = (kk : Int) := ⟨k.toNat, by omega⟩
 obtain ⟨t, ht, hb, hp0, hp1, hlen, hall⟩ := whileM_run (σ := (List Str) × Int × GL30Rd) (τ := (List Str) × GL30Rd) (f := (fun (s107 : (List Str) × Int × GL30Rd) => (cond (decide ((0 : Int) < s107.2.1)) (Option.bind (M.spec_l30Known F ) fun r139 => (Option.bind (M.spec_l30Rd_of F s107.2.2 r139) fun r151 => (Option.bind (catL 16 s107.1 ([r151.1] : List Str)) fun x173 => (some (.inl (x173, (w64 (s107.2.1 - (1 : Int))), r151.2)))))) (some (.inr (s107.1, s107.2.2))))))
  (Post := fun t => t.2.b_ = r.b_ ∧ 0 ≤ t.2.p_ ∧ t.2.p_ ≤ 200000 ∧ t.1.length ≤ 10 ∧ ∀ w ∈ t.1, w.length ≤ 1000) (fun i st => st.2.1 = ((k - i : Nat) : Int) ∧ st.1.length ≤ i ∧ (∀ w ∈ st.1, w.length ≤ 1000) ∧ st.2.2.b_ = r.b_ ∧ 0 ≤ st.2.2.p_ ∧ st.2.2.p_ ≤ 100000 + i) k (fun i st hi hst => by
   obtain ⟨s1, s2, b, q⟩ := st
   obtain ⟨e1, e2, e3, e4, e5, e6⟩ := hst
   simp only at e1 e2 e3 e4 e5 e6
   subst e1
   subst e4
   refine .inl ?_
   dsimp only
   unfold M.spec_l30Known
   rw [decide_eq_true (by omega), cond_true, Option.bind_some]
   obtain ⟨w, hwm, hw⟩ := of_ok F ⟨r.b_, q⟩ [[99, 97, 116], [99, 97, 116, 115], [100, 111, 103], [100, 111, 103, 115], [114, 117, 110], [114, 117, 110, 110, 105, 110, 103], [116, 104, 101], [114, 101, 100], [98, 105, 103], [110, 101, 119], [121, 111, 114, 107], [110, 121], [102, 111, 120]] ⟨h1, e5, by simp only; omega⟩ (by simp)
   have hwl : w.length ≤ 1000 := by
    have hcheck : ∀ x ∈ ([[99, 97, 116], [99, 97, 116, 115], [100, 111, 103], [100, 111, 103, 115], [114, 117, 110], [114, 117, 110, 110, 105, 110, 103], [116, 104, 101], [114, 101, 100], [98, 105, 103], [110, 101, 119], [121, 111, 114, 107], [110, 121], [102, 111, 120]] : List Str), x.length ≤ 1000 := by decide
    exact hcheck w hwm
   rw [hw, Option.bind_some, catLok (by rw [List.length_singleton]; omega), Option.bind_some, w64_pred (by omega) (by omega)]
   refine ⟨_, rfl, ?_, ?_, ?_, rfl, by simp only; omega, by simp only; omega⟩
   ·simp only; omega
   ·simp only [List.length_append, List.length_singleton]; omega
   ·intro x hx
    rcases List.mem_append.1 hx with hx | hx
    ·exact e3 x hx
    ·rcases List.mem_singleton.1 hx with rfl; exact hwl) (fun st hst => by
   obtain ⟨s1, s2, b, q⟩ := st
   obtain ⟨e1, e2, e3, e4, e5, e6⟩ := hst
   simp only at e1 e2 e3 e4 e5 e6
   subst e1
   dsimp only
   rw [decide_eq_false (by omega)]
   exact ⟨_, rfl, e4, e5, by simp only; omega, by simp only; omega, e3⟩) k 0 (([] : List Str), (k : Int), ⟨r.b_, p + 1⟩) F (by omega) (by omega) ⟨by simp, by simp, by simp, rfl, by simp only; omega, by simp only; omega⟩
 rw [ht, Option.bind_some, Option.bind_some]
 dsimp only
 obtain ⟨n, q, hn, ⟨q0, q1⟩, hnl⟩ := lfield_ok F t.2 ⟨by rw [hb]; exact h1, hp0, by omega⟩
 rw [hn, Option.bind_some]
 dsimp only
 obtain ⟨m, _, hmm⟩ := one_ok F ⟨t.2.b_, q⟩ [1, 1, 2, 3, 16, 0] ⟨by rw [hb]; exact h1, by simp only; omega, by simp only; omega⟩ (by simp)
 rw [hmm, Option.bind_some]
 exact ⟨_, _, _, _, _, rfl, hcd.fit, hsf, hnl, hlen, hall⟩
theorem law_boundLooks (code : List UInt8) : ∃ F, M.laws_FnBoundLooks F code = some true := by
 refine ⟨2000000000, ?_⟩
 generalize hF : 2000000000 = F
 unfold M.laws_FnBoundLooks
 cases decide ((1048576 : Int) < (code.length : Int))
 case true => rfl
 obtain ⟨c, s, n, words, most, hw, hc, hd, hnl, hwl, hwa⟩ := drawBoundTop_ok F code (by omega)
 rw [cond_false, hw, Option.bind_some]
 dsimp only
 have himpl := fun most => impl_boundTop F c s n words most hd hc (by omega) (by omega)
 have hlen : (boundTopS c s n words most).1.length ≤ 1000 := by
  unfold boundTopS
  split
  ·rename_i hall
   simp only [Bool.and_eq_true, decide_eq_true_iff] at hall
   obtain ⟨⟨ho, hwn, ⟨hw1, hw2⟩, hm1, hm2⟩, hwa⟩ := hall
   have := (fast_inv (c := c) n (uniqT c words) (seg_is ho).2.1 (show 1 ≤ most.toNat ∧ most.toNat ≤ 16 by omega)).few
   show (fastS c s n (uniqT c words) most.toNat).1.length ≤ 1000
   omega
  ·simp
 have hfo := btHits_self F _ hlen (by omega)
 rw [himpl, Option.bind_some, spec_boundTop F c s n words most hd hc (by omega) (by omega) hwa (by omega), Option.bind_some, beq_self_eq_true, Bool.not_true, cond_false, hfo, Option.bind_some, Bool.not_true, cond_false, Option.bind_some, cond_true, Option.bind_some, Option.bind_some]
 cases hneg : decide ((boundTopS c s n words most).2 < 0) with
 | true => rfl
 | false =>
  rw [cond_false, himpl, Option.bind_some]
  have hneg := of_decide_eq_false hneg
  unfold boundTopS at hneg ⊢
  split at hneg
  case isFalse => exact absurd (show (-1 : Int) < 0 by omega) hneg
  rename_i hall
  rw [if_pos hall]
  simp only [Bool.and_eq_true, decide_eq_true_iff] at hall
  obtain ⟨⟨ho, hwn, ⟨hw1, hw2⟩, hm1, hm2⟩, hwa2⟩ := hall
  have hall16 : ((segOk c s && (wordS n && ((decide (1 ≤ (words.length : Int)) && decide ((words.length : Int) ≤ 4)) && (decide ((1 : Int) ≤ 16) && decide ((16 : Int) ≤ 16))))) && words.all wordS) = true := by
   simp only [Bool.and_eq_true, decide_eq_true_iff]
   exact ⟨⟨ho, hwn, ⟨hw1, hw2⟩, by omega, by omega⟩, hwa2⟩
  rw [if_pos hall16]
  have k2 := (seg_is ho).2.1
  have i1 := fast_inv (c := c) n (uniqT c words) k2 (show 1 ≤ most.toNat ∧ most.toNat ≤ 16 by omega)
  have i2 := fast_inv (c := c) n (uniqT c words) k2 (show 1 ≤ 16 ∧ 16 ≤ 16 by omega)
  have hla := looks_all (c := c) n (uniqT c words) k2 (show 1 ≤ most.toNat ∧ most.toNat ≤ 16 by omega) s.Docs.length (Nat.le_refl _)
  rw [List.take_length] at hla
  have hla2 : (fastS c s n (uniqT c words) most.toNat).2 ≤ (fastS c s n (uniqT c words) 16).2 := hla
  have a1 := i1.less
  have a2 := i2.less
  have a3 := i2.looks
  show (cond (decide (((fastS c s n (uniqT c words) most.toNat).1.length : Int) ≤ ((fastS c s n (uniqT c words) most.toNat).2 : Int))) (cond (decide (((fastS c s n (uniqT c words) most.toNat).2 : Int) ≤ ((fastS c s n (uniqT c words) 16).2 : Int))) (cond (decide (((fastS c s n (uniqT c words) 16).2 : Int) ≤ (s.Docs.length : Int))) (some (decide (((fastS c s n (uniqT c words) 16).1.length : Int) ≤ ((fastS c s n (uniqT c words) 16).2 : Int)))) (some false)) (some false)) (some false)) = some true
  rw [decide_eq_true (by omega), cond_true, decide_eq_true (by omega), cond_true, decide_eq_true (by omega), cond_true, decide_eq_true (by omega)]
end Go.Fk
