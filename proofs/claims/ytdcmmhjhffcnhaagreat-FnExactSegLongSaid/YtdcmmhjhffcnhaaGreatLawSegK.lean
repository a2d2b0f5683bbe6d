/-
  The program's segment is the reference's. Of no program.
-/
import Derived.Test.YtdcmmhjhffcnhaaGreatLawSegIJ
set_option linter.unusedVariables false
namespace Go.Fk
open Go

theorem or2_ok (F : Nat) (a b : Int) : M.cmp_Or_int F [a, b] = some (if a = 0 then b else a) := by
  unfold M.cmp_Or_int
  simp only [List.length_cons, List.length_nil, forFrom]
  have g0 : getI [a, b] ((0 : Nat) : Int) = some a := rfl
  have g1 : getI [a, b] ((0 + 1 : Nat) : Int) = some b := rfl
  rw [g0]
  by_cases h : a = 0
  · subst h
    simp only [Option.bind_some, beq_self_eq_true, Bool.not_true, cond_false, Sum.elim_inl]
    rw [g1]
    by_cases hb : b = 0
    · subst hb; rfl
    · rw [Option.bind_some, beq_eq_false_iff_ne.2 hb]; rfl
  · rw [Option.bind_some, beq_eq_false_iff_ne.2 h, if_neg h]; rfl
def ordE (a b : GEntry) : Int := if cmpS a.Field b.Field = 0 then cmpS a.Term b.Term else cmpS a.Field b.Field
theorem ordE_ok (F : Nat) (a b : GEntry) : M.impl_SegOf_1 F a b = some (ordE a b) := by
  unfold M.impl_SegOf_1
  rw [cmp_str, Option.bind_some, cmp_str, Option.bind_some, or2_ok]; rfl
theorem cmpS_neg (x y : Str) : cmpS x y < 0 ↔ strLess x y = true := by
  unfold cmpS
  cases strLess x y
  · cases x == y <;> simp
  · simp
theorem cmpS_zero (x y : Str) : cmpS x y = 0 ↔ x = y := by
  unfold cmpS
  cases h : strLess x y
  · cases h2 : x == y
    · have := beq_eq_false_iff_ne.1 h2
      simp [this]
    · have := eq_of_beq h2
      simp [this]
  · rw [if_pos rfl]
    refine ⟨fun e => by omega, fun e => ?_⟩
    subst e; rw [sl_irrefl] at h; cases h
theorem ordE_lt (F : Nat) (a b : GEntry) : ltO (fun a b => M.impl_SegOf_1 F a b) a b = ltE a b := by
  show decide ((M.impl_SegOf_1 F a b).getD 0 < 0) = _
  rw [ordE_ok]
  show decide (ordE a b < 0) = _
  rw [Bool.eq_iff_iff, decide_eq_true_iff, ltE_iff]
  unfold ordE
  by_cases h : cmpS a.Field b.Field = 0
  · rw [if_pos h, cmpS_neg]
    have e := (cmpS_zero _ _).1 h
    rw [e, sl_irrefl]; simp
  · rw [if_neg h, cmpS_neg]
    have e : a.Field ≠ b.Field := fun e => h ((cmpS_zero _ _).2 e)
    simp [e]

/-! ## putting -/
def Fits (B : Nat) (es : List GEntry) : Prop := es.length ≤ B ∧ ∀ e ∈ es, e.Posts.length ≤ B ∧ ∀ p ∈ e.Posts, p.At.length ≤ B
theorem addPost_fits {B : Nat} {ps : List GPost} {id a : Int} (h : ps.length ≤ B ∧ ∀ p ∈ ps, p.At.length ≤ B) : (addPost ps id a).length ≤ B + 1 ∧ ∀ p ∈ addPost ps id a, p.At.length ≤ B + 1 := by
  obtain ⟨h1, h2⟩ := h
  cases hn : needPost ps id
  · rcases List.eq_nil_or_concat ps with rfl | ⟨qs, p, rfl⟩
    · simp [needPost] at hn
    · have e : addPost (qs.concat p) id a = qs ++ [GPost.mk p.Doc (p.At ++ [a])] := by
        unfold addPost; rw [hn]; simp
      rw [e]
      simp only [List.concat_eq_append, List.length_append, List.length_singleton] at h1 h2 ⊢
      refine ⟨by omega, fun q hq => ?_⟩
      rcases List.mem_append.1 hq with hq | hq
      · have := h2 q (by simp [hq]); omega
      · rw [List.mem_singleton] at hq; subst hq
        have := h2 p (by simp)
        simp only [List.length_append, List.length_singleton]; omega
  · rw [addPost_new hn]
    refine ⟨by simp only [List.length_append, List.length_singleton]; omega, fun q hq => ?_⟩
    rcases List.mem_append.1 hq with hq | hq
    · have := h2 q hq; omega
    · rw [List.mem_singleton] at hq; subst hq; simp
theorem put_fits {B : Nat} {o : Occ} : ∀ {es : List GEntry}, Fits B es → Fits (B + 1) (putS o es) := by
  intro es h
  have hl : ∀ es : List GEntry, (putS o es).length ≤ es.length + 1 := by
    intro es
    induction es with
    | nil => simp [putS]
    | cons e r ih => unfold putS; split <;> simp only [List.length_cons] <;> omega
  refine ⟨by have := hl es; have := h.1; omega, ?_⟩
  have gen : ∀ es : List GEntry, (∀ e ∈ es, e.Posts.length ≤ B ∧ ∀ p ∈ e.Posts, p.At.length ≤ B) → ∀ e ∈ putS o es, e.Posts.length ≤ B + 1 ∧ ∀ p ∈ e.Posts, p.At.length ≤ B + 1 := by
    intro es
    induction es with
    | nil =>
      intro _ e he
      rw [putS, List.mem_singleton] at he; subst he
      exact addPost_fits (B := B) (ps := []) ⟨Nat.zero_le _, fun p hp => by cases hp⟩
    | cons x r ih =>
      intro hx e he
      unfold putS at he
      split at he
      · rcases List.mem_cons.1 he with rfl | he
        · exact addPost_fits (hx x (by simp))
        · have := hx e (by simp [he]); exact ⟨by omega, fun p hp => by have := this.2 p hp; omega⟩
      · rcases List.mem_cons.1 he with rfl | he
        · have := hx e (by simp); exact ⟨by omega, fun p hp => by have := this.2 p hp; omega⟩
        · exact ih (fun y hy => hx y (by simp [hy])) e he
  exact gen es h.2
def keyP (n t : Str) (e : GEntry) : Bool := e.Field == n && e.Term == t
theorem put_idx (o : Occ) : ∀ es : List GEntry, putS o es = match es.findIdx? (keyP o.1.1 o.1.2) with
    | none => es ++ [⟨o.1.1, o.1.2, addPost [] o.2.1 o.2.2⟩]
    | some j => (es[j]?).elim es fun e => es.set j ⟨e.Field, e.Term, addPost e.Posts o.2.1 o.2.2⟩
  | [] => rfl
  | e :: r => by
    have ih := put_idx o r
    rw [putS, List.findIdx?_cons]
    have hk : keyP o.1.1 o.1.2 e = (e.Field == o.1.1 && e.Term == o.1.2) := rfl
    rw [hk, if_bif, if_bif]
    cases (e.Field == o.1.1 && e.Term == o.1.2)
    · simp only [cond_false]
      rw [ih]
      cases r.findIdx? (keyP o.1.1 o.1.2) with
      | none => rfl
      | some j =>
        simp only [Option.map_some, List.getElem?_cons_succ]
        cases r[j]? <;> rfl
    · rfl
theorem impl_index (F : Nat) (es : List GEntry) (n : Str) (t : GTerm) : M.slices_IndexFunc_Entry__impl_Seg_put_1 F es n t = some ((es.findIdx? (keyP n t.Text)).elim (-1 : Int) fun j => (j : Int)) := by
  unfold M.slices_IndexFunc_Entry__impl_Seg_put_1
  rw [idx_from (keyP n t.Text) (fun i x hx => ?_)]
  · cases es.findIdx? (keyP n t.Text) <;> rfl
  · rw [getI_nat', hx, Option.bind_some]
    unfold M.impl_Seg_put_1
    have : (cond (x.Field == n) (some (x.Term == t.Text)) (some false) : Option Bool) = some (keyP n t.Text x) := by
      unfold keyP; cases x.Field == n <;> rfl
    rw [this, Option.bind_some, if_bif]
    cases keyP n t.Text x <;> rfl
theorem impl_put (F B : Nat) (docs : List GDoc) (es : List GEntry) (n : Str) (t : GTerm) (id : Int) (h : Fits B es) (hB : B ≤ 1000000) : M.impl_Seg_put F ⟨docs, es⟩ n t id = some ⟨docs, putS ((n, t.Text), (id, t.At)) es⟩ := by
  have h1 := h.1
  have hpost : ∀ ps : List GPost, (ps.length ≤ B ∧ ∀ p ∈ ps, p.At.length ≤ B) → ∃ p at_, (cond (needPost ps id) (catL 32 ps [GPost.mk id []]) (some ps)) = some (if needPost ps id then ps ++ [GPost.mk id []] else ps) ∧ (if needPost ps id then ps ++ [GPost.mk id []] else ps).getLast? = some p ∧
      catL 8 p.At [t.At] = some at_ ∧ addPost ps id t.At = (if needPost ps id then ps ++ [GPost.mk id []] else ps).dropLast ++ [GPost.mk p.Doc at_] := fun ps ⟨g1, g2⟩ => by
    cases hn : needPost ps id
    · rcases List.eq_nil_or_concat ps with rfl | ⟨qs, p, rfl⟩
      · simp [needPost] at hn
      · have := g2 p (by simp)
        refine ⟨p, p.At ++ [t.At], rfl, by simp, catLok (by simp only [List.length_singleton]; omega), ?_⟩
        unfold addPost; rw [hn]; simp
    · refine ⟨GPost.mk id [], [t.At], ?_, by simp, catLok (by simp), ?_⟩
      · rw [cond_true, catLok (by simp only [List.length_singleton]; omega)]; rfl
      · unfold addPost; rw [hn]; simp
  unfold M.impl_Seg_put
  rw [impl_index, Option.bind_some, put_idx]
  cases hf : es.findIdx? (keyP n t.Text) with
  | none =>
    obtain ⟨p, at_, e1, e2, e3, e4⟩ := hpost [] ⟨by simp, by simp⟩
    rw [show (Option.elim (none : Option Nat) (-1 : Int) fun j => (j : Int)) = -1 from rfl]
    rw [decide_eq_true (by decide), cond_true, cond_true]
    dsimp only
    rw [catLok (by simp only [List.length_singleton]; omega), Option.bind_some, getI_nat', List.getElem?_append_right (Nat.le_refl _), Nat.sub_self]
    simp only [List.getElem?_cons_zero, Option.bind_some]
    rw [e1, Option.bind_some, e2, Option.bind_some, e3, Option.bind_some, ← e4]
    simp
  | some j =>
    have hj := (List.findIdx?_eq_some_iff_getElem.1 hf).1
    have hfit := h.2 es[j] (List.getElem_mem hj)
    obtain ⟨p, at_, e1, e2, e3, e4⟩ := hpost es[j].Posts hfit
    rw [show (Option.elim (some j) (-1 : Int) fun j => (j : Int)) = (j : Int) from rfl]
    rw [decide_eq_false (by omega), cond_false, cond_false]
    dsimp only
    rw [Option.bind_some, getI_nat', List.getElem?_eq_getElem hj, Option.bind_some, e1, Option.bind_some, e2, Option.bind_some, e3, Option.bind_some, ← e4]
    rfl
end Go.Fk
