/-
  The segment by putting one term after the other: entries in the order of their first term. Of no program.
-/
import Derived.Test.YtdcmmhjhffcnhaaLawSeg
set_option linter.unusedVariables false
namespace Go.Fk
open Go

abbrev Occ := (Str × Str) × (Int × Int)
def addPost (ps : List GPost) (id : Int) (at_ : Int) : List GPost :=
  match (if needPost ps id then ps ++ [GPost.mk id []] else ps).getLast? with
  | none => []
  | some p => (if needPost ps id then ps ++ [GPost.mk id []] else ps).dropLast ++ [GPost.mk p.Doc (p.At ++ [at_])]
def putS (o : Occ) : List GEntry → List GEntry
  | [] => [⟨o.1.1, o.1.2, addPost [] o.2.1 o.2.2⟩]
  | e :: r => if e.Field == o.1.1 && e.Term == o.1.2 then ⟨e.Field, e.Term, addPost e.Posts o.2.1 o.2.2⟩ :: r else e :: putS o r
def addKey (k : Str × Str) : List (Str × Str) → List (Str × Str)
  | [] => [k]
  | x :: r => if x == k then x :: r else x :: addKey k r
def keysOf (os : List Occ) : List (Str × Str) := os.foldl (fun ks o => addKey o.1 ks) []
def postsOf (l : List (Int × Int)) : List GPost := l.foldl (fun ps q => addPost ps q.1 q.2) []
def mkE (os : List Occ) (k : Str × Str) : GEntry := ⟨k.1, k.2, postsOf ((os.filter fun o => o.1 == k).map (·.2))⟩
theorem mem_addKey {k x : Str × Str} : ∀ {l : List (Str × Str)}, x ∈ addKey k l ↔ x = k ∨ x ∈ l
  | [] => by simp [addKey]
  | a :: l => by
    unfold addKey
    split
    · rename_i h
      have := eq_of_beq h
      subst this
      rw [List.mem_cons]
      constructor
      · rintro (h | h) <;> simp [h]
      · rintro (h | h | h) <;> simp [h]
    · rw [List.mem_cons, mem_addKey (l := l), List.mem_cons]
      constructor
      · rintro (h1 | h1 | h1) <;> simp [h1]
      · rintro (h1 | h1 | h1) <;> simp [h1]
theorem addKey_nodup {k : Str × Str} : ∀ {l : List (Str × Str)}, l.Nodup → (addKey k l).Nodup
  | [], _ => by simp [addKey]
  | a :: l, h => by
    have hc := List.nodup_cons.1 h
    unfold addKey
    split
    · exact h
    · rename_i hne
      refine List.nodup_cons.2 ⟨fun hm => ?_, addKey_nodup hc.2⟩
      rcases mem_addKey.1 hm with e | hm
      · exact hne (by simp [e])
      · exact hc.1 hm
theorem addKey_new {k : Str × Str} : ∀ {l : List (Str × Str)}, k ∉ l → addKey k l = l ++ [k]
  | [], _ => rfl
  | a :: l, h => by
    have h1 : (a == k) = false := beq_eq_false_iff_ne.2 fun e => h (by simp [e])
    unfold addKey
    rw [h1, if_neg (by simp), addKey_new (l := l) (fun hm => h (by simp [hm]))]; rfl
theorem addKey_old {k : Str × Str} : ∀ {l : List (Str × Str)}, k ∈ l → addKey k l = l
  | [], h => by cases h
  | a :: l, h => by
    unfold addKey
    split
    · rfl
    · rename_i hne
      rcases List.mem_cons.1 h with e | h
      · exact absurd (by simp [e]) hne
      · rw [addKey_old h]
theorem keysOf_snoc (os : List Occ) (o : Occ) : keysOf (os ++ [o]) = addKey o.1 (keysOf os) := by
  unfold keysOf; rw [List.foldl_append]; rfl
theorem keys_spec : ∀ (l pre : List Occ) , ((keysOf pre).Nodup ∧ ∀ k, k ∈ keysOf pre ↔ ∃ o ∈ pre, o.1 = k) → (keysOf (pre ++ l)).Nodup ∧ ∀ k, k ∈ keysOf (pre ++ l) ↔ ∃ o ∈ pre ++ l, o.1 = k
  | [], pre, h => by rw [List.append_nil]; exact h
  | o :: l, pre, ⟨h1, h2⟩ => by
    rw [show pre ++ o :: l = (pre ++ [o]) ++ l by simp]
    refine keys_spec l (pre ++ [o]) ⟨?_, fun k => ?_⟩
    · rw [keysOf_snoc]; exact addKey_nodup h1
    · rw [keysOf_snoc, mem_addKey, h2]
      constructor
      · rintro (rfl | ⟨q, hq, e⟩)
        · exact ⟨o, by simp, rfl⟩
        · exact ⟨q, by simp [hq], e⟩
      · rintro ⟨q, hq, e⟩
        rcases List.mem_append.1 hq with hq | hq
        · exact .inr ⟨q, hq, e⟩
        · rw [List.mem_singleton] at hq; subst hq; exact .inl e.symm
theorem keys_ok (os : List Occ) : (keysOf os).Nodup ∧ ∀ k, k ∈ keysOf os ↔ ∃ o ∈ os, o.1 = k := by
  have := keys_spec os [] ⟨List.nodup_nil, by simp [keysOf]⟩
  simpa using this
theorem mkE_snoc (os : List Occ) (o : Occ) (k : Str × Str) : mkE (os ++ [o]) k = if o.1 == k then ⟨k.1, k.2, addPost (mkE os k).Posts o.2.1 o.2.2⟩ else mkE os k := by
  unfold mkE
  rw [List.filter_append]
  cases h : o.1 == k
  · rw [List.filter_cons, h]; simp
  · rw [List.filter_cons, h]; simp [postsOf, List.foldl_append]
theorem put_old {os : List Occ} {o : Occ} : ∀ {ks : List (Str × Str)}, ks.Nodup → o.1 ∈ ks → putS o (ks.map (mkE os)) = ks.map (mkE (os ++ [o]))
  | [], _, h => by cases h
  | k :: ks, hn, h => by
    have hc := List.nodup_cons.1 hn
    have hpick : ((mkE os k).Field == o.1.1 && (mkE os k).Term == o.1.2) = (k == o.1) := rfl
    rw [List.map_cons, List.map_cons, putS, hpick]
    by_cases he : k = o.1
    · subst he
      rw [beq_self_eq_true, if_pos rfl, mkE_snoc, beq_self_eq_true, if_pos rfl]
      congr 1
      refine List.map_congr_left fun x hx => ?_
      have : (o.1 == x) = false := beq_eq_false_iff_ne.2 fun e => hc.1 (e ▸ hx)
      rw [mkE_snoc, this, if_neg (by simp)]
    · have h1 : (k == o.1) = false := beq_eq_false_iff_ne.2 he
      have h2 : (o.1 == k) = false := beq_eq_false_iff_ne.2 fun e => he e.symm
      rw [h1, if_neg (by simp), mkE_snoc, h2, if_neg (by simp)]
      congr 1
      rcases List.mem_cons.1 h with e | h
      · exact absurd e.symm he
      · exact put_old hc.2 h
theorem put_app {o : Occ} : ∀ {es : List GEntry}, (∀ e ∈ es, (e.Field == o.1.1 && e.Term == o.1.2) = false) → putS o es = es ++ [⟨o.1.1, o.1.2, addPost [] o.2.1 o.2.2⟩]
  | [], _ => rfl
  | e :: es, h => by
    rw [putS, h e (by simp), if_neg (by simp), put_app (fun e he => h e (by simp [he]))]; rfl
theorem put_new {os : List Occ} {o : Occ} {ks : List (Str × Str)} (h : o.1 ∉ ks) (hos : ∀ q ∈ os, q.1 ∈ ks) : putS o (ks.map (mkE os)) = (ks ++ [o.1]).map (mkE (os ++ [o])) := by
  rw [put_app (fun e he => ?_), List.map_append]
  · congr 1
    · refine List.map_congr_left fun x hx => ?_
      have : (o.1 == x) = false := beq_eq_false_iff_ne.2 fun e => h (e ▸ hx)
      rw [mkE_snoc, this, if_neg (by simp)]
    · rw [List.map_singleton, mkE_snoc, beq_self_eq_true, if_pos rfl]
      have : os.filter (fun q => q.1 == o.1) = [] := List.filter_eq_nil_iff.2 fun q hq e => h (by have := eq_of_beq e; rw [← this]; exact hos q hq)
      simp [mkE, this, postsOf]
  · obtain ⟨k, hk, rfl⟩ := List.mem_map.1 he
    show (k == o.1) = false
    exact beq_eq_false_iff_ne.2 fun e => h (e ▸ hk)
theorem puts_gen : ∀ (l pre : List Occ), l.foldl (fun es o => putS o es) ((keysOf pre).map (mkE pre)) = (keysOf (pre ++ l)).map (mkE (pre ++ l))
  | [], pre => by rw [List.append_nil]; rfl
  | o :: l, pre => by
    have hk := keys_ok pre
    have hst : putS o ((keysOf pre).map (mkE pre)) = (keysOf (pre ++ [o])).map (mkE (pre ++ [o])) := by
      rw [keysOf_snoc]
      by_cases h : o.1 ∈ keysOf pre
      · rw [addKey_old h, put_old hk.1 h]
      · rw [addKey_new h, put_new h fun q hq => (hk.2 _).2 ⟨q, hq, rfl⟩]
    rw [List.foldl_cons, hst, puts_gen l (pre ++ [o]), show pre ++ [o] ++ l = pre ++ o :: l by simp]
theorem puts_all (os : List Occ) : os.foldl (fun es o => putS o es) [] = (keysOf os).map (mkE os) := by
  have := puts_gen os []
  simpa [keysOf] using this
end Go.Fk
