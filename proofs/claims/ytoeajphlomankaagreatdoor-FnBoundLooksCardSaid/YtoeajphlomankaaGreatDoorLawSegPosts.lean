/-
  The posts of a key. Of no program.
-/
import Derived.Test.YtoeajphlomankaaGreatDoorLawFoSeg
set_option linter.unusedVariables false
namespace Go.Fk
open Go
theorem entry_in {c : GConf} {docs : List GDoc} {n t : Str} : entryS c docs n t ∈ (segS c docs).Entries ↔ n ∈ namesS docs ∧ t ∈ ftermsS c docs n := by
 unfold segS
 constructor
 ·intro h
  obtain ⟨m, hm, h⟩ := List.mem_flatMap.1 h
  obtain ⟨u, hu, e⟩ := List.mem_map.1 h
  have e1 : m = n := congrArg GEntry.Field e
  have e2 : u = t := congrArg GEntry.Term e
  subst e1; subst e2
  exact ⟨hm, hu⟩
 ·rintro ⟨h1, h2⟩
  exact List.mem_flatMap.2 ⟨n, h1, List.mem_map.2 ⟨t, h2, rfl⟩⟩
theorem mem_seg {c : GConf} {docs : List GDoc} {e : GEntry} (h : e ∈ (segS c docs).Entries) : e = entryS c docs e.Field e.Term := by
 unfold segS at h
 obtain ⟨m, hm, h⟩ := List.mem_flatMap.1 h
 obtain ⟨u, hu, rfl⟩ := List.mem_map.1 h
 rfl
theorem term_in {c : GConf} {docs : List GDoc} {d : GDoc} {n : Str} {x : GTerm} (hd : d ∈ docs) (hx : x ∈ termsS c (fieldS d n)) : n ∈ namesS docs ∧ x.Text ∈ ftermsS c docs n := by
 refine ⟨?_, mem_fterms.2 ⟨d, hd, x, hx, rfl⟩⟩
 unfold fieldS at hx
 cases hf : d.Fields.find? fun f => f.Name == n with
 | none => rw [hf, Option.elim_none, terms_nil] at hx; cases hx
 | some f => exact mem_names.2 ⟨d, hd, f, List.mem_of_find?_eq_some hf, eq_of_beq (List.find?_some (p := fun f : GField => f.Name == n) hf)⟩
def postsAt (s : GSeg) (n t : Str) : List GPost := (s.Entries.find? (keyP n t)).elim [] (·.Posts)
theorem impl_findPosts (F : Nat) (s : GSeg) (n t : Str) : M.impl_Seg_posts F s n t = some (postsAt s n t) := by
 unfold M.impl_Seg_posts postsAt
 rw [find_from (xs := s.Entries) (keyP n t) (fun e => e.Posts) (fun i x hx => ?_)]
 ·cases s.Entries.find? (keyP n t) <;> rfl
 ·rw [getI_nat', hx, Option.bind_some]
  unfold keyP
  rw [if_bif]
  cases x.Field == n
  ·rfl
  ·cases x.Term == t <;> rfl
theorem postsAt_seg (c : GConf) (docs : List GDoc) (n t : Str) : postsAt (segS c docs) n t = docs.flatMap (docPost c n t) := by
 unfold postsAt
 cases hf : (segS c docs).Entries.find? (keyP n t) with
 | some e =>
  have hm := List.mem_of_find?_eq_some hf
  have hk := List.find?_some (p := keyP n t) hf
  unfold keyP at hk
  rw [Bool.and_eq_true] at hk
  have e1 := eq_of_beq hk.1
  have e2 := eq_of_beq hk.2
  have := mem_seg hm
  rw [this, e1, e2]; rfl
 | none =>
  have hno : ∀ d ∈ docs, docPost c n t d = [] := fun d hd => by
   cases hp : docPost c n t d with
   | nil => rfl
   | cons p ps =>
    unfold docPost at hp
    split at hp
    ·rename_i h0
     have h0 := of_decide_eq_true h0
     obtain ⟨a, ha⟩ := List.exists_mem_of_length_pos h0
     unfold postS at ha
     obtain ⟨x, hx, hxa⟩ := List.mem_flatMap.1 ha
     have ht : x.Text = t := by
      split at hxa
      ·rename_i k; exact eq_of_beq k
      ·cases hxa
     obtain ⟨k1, k2⟩ := term_in (c := c) hd hx
     rw [ht] at k2
     have := List.find?_eq_none.1 hf _ (entry_in.2 ⟨k1, k2⟩)
     exact absurd (show keyP n t (entryS c docs n t) = true by unfold keyP entryS; simp) this
    ·cases hp
  show [] = _
  rw [List.flatMap_eq_nil_iff.2 hno]
end Go.Fk
