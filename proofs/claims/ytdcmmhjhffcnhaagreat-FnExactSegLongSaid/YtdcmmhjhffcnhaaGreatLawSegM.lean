/-
  Lists compared element by element; a segment that holds. Of no program.
-/
import Derived.Test.YtdcmmhjhffcnhaaGreatLawSegL
set_option linter.unusedVariables false
namespace Go.Fk
open Go

def eqL {α : Type} (q : α → α → Bool) (xs ys : List α) : Bool := decide ((xs.length : Int) = ys.length) && (xs.zip ys).all fun p => q p.1 p.2
theorem eqL_iff {α : Type} {q : α → α → Bool} (h : ∀ a b, q a b = true ↔ a = b) : ∀ xs ys : List α, eqL q xs ys = true ↔ xs = ys
  | [], [] => by simp [eqL]
  | [], y :: ys => by simp [eqL]; omega
  | x :: xs, [] => by simp [eqL]; omega
  | x :: xs, y :: ys => by
    have ih := eqL_iff h xs ys
    unfold eqL at ih ⊢
    rw [Bool.and_eq_true, decide_eq_true_iff] at ih ⊢
    rw [List.zip_cons_cons, List.all_cons, Bool.and_eq_true, h, List.cons.injEq, ← ih]
    simp only [List.length_cons]
    constructor
    · rintro ⟨h1, h2, h3⟩; exact ⟨h2, by omega, h3⟩
    · rintro ⟨h1, h2, h3⟩; exact ⟨by omega, h1, h3⟩
theorem zip_at {α : Type} {xs ys : List α} {i : Nat} {p : α × α} (h : (xs.zip ys)[i]? = some p) : xs[i]? = some p.1 ∧ ys[i]? = some p.2 := by
  have := List.getElem?_zip_eq_some.1 h
  exact this
theorem eqL_for {α : Type} (q : α → α → Bool) {xs ys : List α} {f : Nat → Unit → Option (Unit ⊕ Bool)} (h : ∀ i a b, xs[i]? = some a → ys[i]? = some b → f i () = some (if q a b then .inl () else .inr false)) :
    (cond (!((xs.length : Int) == (ys.length : Int))) (some false) (Option.bind ((Option.bind (forFrom f xs.length 0 ()) fun r => r.elim (fun _ => some (.inl ())) (fun t => some (.inr t))) : Option (Unit ⊕ Bool)) fun o => o.elim (fun _ => some true) fun t => some t)) = some (eqL q xs ys) := by
  by_cases e : (xs.length : Int) = ys.length
  · have hz : (xs.zip ys).length = xs.length := by rw [List.length_zip]; omega
    have := all_from (p := fun p : α × α => q p.1 p.2) (xs := xs.zip ys) (f := f) (fun i p hp => h i p.1 p.2 (zip_at hp).1 (zip_at hp).2)
    have := this xs.length 0 (by omega)
    rw [List.drop_zero] at this
    rw [this, beq_iff_eq.2 e]
    unfold eqL
    rw [decide_eq_true e, Bool.true_and]
    cases (xs.zip ys).all fun p => q p.1 p.2 <;> rfl
  · rw [beq_eq_false_iff_ne.2 e]
    unfold eqL
    rw [decide_eq_false e]; rfl
theorem eqL_while {α : Type} (q : α → α → Bool) {xs ys : List α} {f : Int → Option (Int ⊕ (Unit ⊕ Bool))} (F : Nat) (hF : xs.length < F) (h : ∀ (i : Nat) a b, i < xs.length → xs[i]? = some a → ys[i]? = some b → f (i : Int) = some (if q a b then .inl ((i + 1 : Nat) : Int) else .inr (.inr false))) (h0 : f (xs.length : Int) = some (.inr (.inl ()))) :
    (cond (!((xs.length : Int) == (ys.length : Int))) (some false) (Option.bind ((Option.bind (whileM f F (0 : Int)) fun r => r.elim (fun _ => some (.inl ())) (fun t => some (.inr t))) : Option (Unit ⊕ Bool)) fun o => o.elim (fun _ => some true) fun t => some t)) = some (eqL q xs ys) := by
  by_cases e : (xs.length : Int) = ys.length
  · have hz : (xs.zip ys).length = xs.length := by rw [List.length_zip]; omega
    have := all_while0 (fun p : α × α => q p.1 p.2) (xs := xs.zip ys) (f := f) F (by omega) (fun i p hp => h i p.1 p.2 (by have := (List.getElem?_eq_some_iff.1 hp).1; omega) (zip_at hp).1 (zip_at hp).2) (by rw [hz]; exact h0)
    rw [this, beq_iff_eq.2 e]
    unfold eqL
    rw [decide_eq_true e, Bool.true_and]
    cases (xs.zip ys).all fun p => q p.1 p.2 <;> rfl
  · rw [beq_eq_false_iff_ne.2 e]
    unfold eqL
    rw [decide_eq_false e]; rfl
def eqI (a b : Int) : Bool := a == b
def eqP (a b : GPost) : Bool := a.Doc == b.Doc && eqL eqI a.At b.At
def eqE (a b : GEntry) : Bool := a.Field == b.Field && (a.Term == b.Term && eqL eqP a.Posts b.Posts)
theorem eqI_iff (a b : Int) : eqI a b = true ↔ a = b := by simp [eqI]
theorem eqP_iff (a b : GPost) : eqP a b = true ↔ a = b := by
  unfold eqP
  rw [Bool.and_eq_true, eqL_iff eqI_iff]
  cases a; cases b; simp
theorem eqE_iff (a b : GEntry) : eqE a b = true ↔ a = b := by
  unfold eqE
  rw [Bool.and_eq_true, Bool.and_eq_true, eqL_iff eqP_iff]
  cases a; cases b; simp
theorem impl_ints (F : Nat) (a b : List Int) : M.slices_Equal_int F a b = some (eqL eqI a b) := by
  unfold M.slices_Equal_int
  refine eqL_for eqI fun i x y hx hy => ?_
  rw [getI_nat', hx, Option.bind_some, getI_nat', hy, Option.bind_some, if_bif]
  unfold eqI
  cases x == y <;> rfl
theorem impl_post (F : Nat) (a b : GPost) : M.impl_samePost F a b = some (eqP a b) := by
  unfold M.impl_samePost eqP
  rw [impl_ints]
  cases a.Doc == b.Doc <;> rfl
theorem impl_posts (F : Nat) (a b : List GPost) : M.slices_EqualFunc_Post__impl_samePost F a b = some (eqL eqP a b) := by
  unfold M.slices_EqualFunc_Post__impl_samePost
  refine eqL_for eqP fun i x y hx hy => ?_
  rw [getI_nat', hx, Option.bind_some, getI_nat', hy, Option.bind_some, impl_post, Option.bind_some, if_bif]
  cases eqP x y <;> rfl
theorem impl_entry (F : Nat) (a b : GEntry) : M.impl_sameEntry F a b = some (eqE a b) := by
  unfold M.impl_sameEntry eqE
  rw [impl_posts]
  cases a.Field == b.Field
  · rfl
  · cases a.Term == b.Term <;> rfl
theorem impl_entries (F : Nat) (a b : List GEntry) : M.slices_EqualFunc_Entry__impl_sameEntry F a b = some (eqL eqE a b) := by
  unfold M.slices_EqualFunc_Entry__impl_sameEntry
  refine eqL_for eqE fun i x y hx hy => ?_
  rw [getI_nat', hx, Option.bind_some, getI_nat', hy, Option.bind_some, impl_entry, Option.bind_some, if_bif]
  cases eqE x y <;> rfl
theorem spec_ints (F : Nat) (a b : List Int) (hF : a.length < F) (hl : a.length < 9000000000000000000) : M.spec_l7SameInts F a b = some (eqL eqI a b) := by
  unfold M.spec_l7SameInts
  refine eqL_while eqI F hF (fun i x y hi hx hy => ?_) ?_
  · rw [decide_eq_true (by omega), cond_true, getI_nat', hx, Option.bind_some, getI_nat', hy, Option.bind_some, w64_succ' (by omega), if_bif]
    unfold eqI
    cases x == y <;> rfl
  · rw [decide_eq_false (by omega)]; rfl
theorem spec_sameE (F : Nat) (a b : GEntry) (h : a.Posts.length ≤ 10000 ∧ ∀ p ∈ a.Posts, p.At.length ≤ 10000) (hF : 10000 < F) : M.spec_l7SameEntry F a b = some (eqE a b) := by
  unfold M.spec_l7SameEntry eqE
  have key := eqL_while eqP (xs := a.Posts) (ys := b.Posts) F (by omega) (f := fun (s46 : Int) => (cond (decide (s46 < (a.Posts.length : Int))) (Option.bind ((Option.bind (getI a.Posts s46) fun x67 => (Option.bind (getI b.Posts s46) fun x81 => (cond (!(x67.Doc == x81.Doc)) (some true) (Option.bind (getI a.Posts s46) fun x101 => (Option.bind (getI b.Posts s46) fun x115 => (Option.bind (M.spec_l7SameInts F x101.At x115.At) fun r129 => (some (!r129)))))))) : Option Bool) fun o60 => (cond o60 (some (.inr (.inr false))) (some (.inl (w64 (s46 + (1 : Int))))))) (some (.inr (.inl ()))))) (fun i x y hi hx hy => ?_) ?_
  · cases hf : a.Field == b.Field
    · rfl
    cases ht : a.Term == b.Term
    · rfl
    rw [Bool.true_and, Bool.true_and, ← key]
    simp only [Bool.not_true, cond_false]
    rfl
  · have hp := h.2 x (List.mem_of_getElem? hx)
    rw [decide_eq_true (by omega), cond_true, getI_nat', hx, Option.bind_some, getI_nat', hy, Option.bind_some, w64_succ' (by omega), Option.bind_some, Option.bind_some, spec_ints F _ _ (by omega) (by omega), Option.bind_some, if_bif]
    unfold eqP
    cases x.Doc == y.Doc
    · rfl
    · cases eqL eqI x.At y.At <;> rfl
  · rw [decide_eq_false (by omega)]; rfl
/-- a segment's size -/
theorem seg_fits {c : GConf} {docs : List GDoc} (h : docsS docs = true) : Fits 7680 (segS c docs).Entries := by
  have hall := docs_all h
  have hput : putAll [] (occS c docs) = (keysOf (occS c docs)).map (mkE (occS c docs)) := puts_all _
  have hfin : Fits 7680 ((keysOf (occS c docs)).map (mkE (occS c docs))) := by
    have hl := flat_le (g := docOcc c) (m := 480) docs fun d hd => docOcc_len (hall.2 d hd)
    have hl2 := hall.1
    have := putAll_fits (B := 0) (occS c docs) (es := []) (by simp [Fits])
    rw [hput] at this
    exact this.le (by unfold occS; omega)
  have hm := mem_segS (c := c) (docs_good h)
  have n1 : (segS c docs).Entries.Nodup := (segS_sorted c docs).imp fun {a b} k e => by subst e; rw [ltE_irr] at k; cases k
  have n2 : ((keysOf (occS c docs)).map (mkE (occS c docs))).Nodup := (keys_apart (occS c docs)).imp fun {a b} k e => by subst e; rw [ltE_irr] at k; rcases k with k | k <;> cases k
  have hp := (List.perm_ext_iff_of_nodup n1 n2).2 hm
  exact ⟨by rw [hp.length_eq]; exact hfin.1, fun e he => hfin.2 e ((hm e).1 he)⟩
def segOk (c : GConf) (s : GSeg) : Bool := confS c && docsS s.Docs && eqL eqE (segS c s.Docs).Entries s.Entries
theorem impl_ok (F : Nat) (c : GConf) (s : GSeg) (hd : s.Docs.length < 9000000000000000000) (hc : c.Stops.length ≤ 2000000) (hF : 1000 < F) : M.impl_SegOk F c s = some (segOk c s) := by
  unfold M.impl_SegOk segOk
  rw [impl_conf F c hc (by omega), Option.bind_some, impl_segOf F c s.Docs hd hc hF]
  unfold segOf
  cases hcs : confS c
  · rfl
  rw [Bool.not_true, cond_false, impl_docs F s.Docs hd, Option.bind_some, Option.bind_some, Bool.true_and]
  cases hds : docsS s.Docs
  · rfl
  rw [Bool.not_true, cond_false, if_pos rfl, Option.bind_some, impl_entries]; rfl
theorem spec_okB (F B : Nat) (c : GConf) (s : GSeg) (hdl : s.Docs.length ≤ B) (hdb : ∀ d ∈ s.Docs, DocBig B d) (hc : ConfFit B c) (hB : B ≤ 2000000) (hF : B + 200000 < F) : M.spec_l7Ok F c s = some (segOk c s) := by
  unfold M.spec_l7Ok segOk
  rw [spec_conf F B c hc hB (by omega), Option.bind_some]
  cases hcs : confS c
  · rfl
  rw [Bool.not_true, cond_false, spec_docsB F B s.Docs hdl hdb hB (by omega), Option.bind_some, Option.bind_some, Bool.true_and]
  cases hds : docsS s.Docs
  · rfl
  have hfit := seg_fits (c := c) hds
  rw [Bool.not_true, cond_false, spec_seg F c s.Docs hcs (docs_fit hds) (by omega), Option.bind_some, Bool.true_and]
  have hl := hfit.1
  refine eqL_while eqE F (by omega) (fun i x y hi hx hy => ?_) ?_
  · have hp := hfit.2 x (List.mem_of_getElem? hx)
    rw [decide_eq_true (by omega), cond_true, getI_nat', hx, Option.bind_some, getI_nat', hy, Option.bind_some, w64_succ' (by omega), spec_sameE F x y ⟨by omega, fun p hpp => by have := hp.2 p hpp; omega⟩ (by omega), Option.bind_some, if_bif]
    cases eqE x y <;> rfl
  · rw [decide_eq_false (by omega)]; rfl
theorem seg_is {c : GConf} {s : GSeg} (h : segOk c s = true) : confS c = true ∧ docsS s.Docs = true ∧ s = segS c s.Docs := by
  unfold segOk at h
  rw [Bool.and_eq_true, Bool.and_eq_true, eqL_iff eqE_iff] at h
  refine ⟨h.1.1, h.1.2, ?_⟩
  have : s.Entries = (segS c s.Docs).Entries := h.2.symm
  cases s
  simp only at this
  subst this
  rfl
end Go.Fk
