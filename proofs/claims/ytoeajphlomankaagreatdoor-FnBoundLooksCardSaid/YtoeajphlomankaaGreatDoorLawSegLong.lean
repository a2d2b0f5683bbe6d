/-
  The law of SegLong. Of no program.
-/
import Derived.Test.YtoeajphlomankaaGreatDoorLawField
set_option linter.unusedVariables false
namespace Go.Fk
open Go
theorem impl_segdoc (F : Nat) (s : GSeg) (id : Int) : M.impl_Seg_doc F s id = some ((s.Docs.find? fun d => d.Id == id).elim (GDoc.mk 0 [] [], false) fun d => (d, true)) := by
 unfold M.impl_Seg_doc
 rw [find_from (xs := s.Docs) (fun d => d.Id == id) (fun d => (d, true)) (fun i x hx => ?_)]
 ·cases s.Docs.find? fun d => d.Id == id <;> rfl
 ·rw [getI_nat', hx, Option.bind_some, if_bif]
  cases x.Id == id <;> rfl
def fieldLen (c : GConf) (docs : List GDoc) (n : Str) (id : Int) : Nat := (docs.find? fun d => d.Id == id).elim 0 fun d => (termsS c (fieldS d n)).length
theorem impl_fieldTerms (F : Nat) {c : GConf} {d : GDoc} (hc : confS c = true) (hd : docS d = true) (n : Str) (hF : 2000 < F) : (Option.bind (M.impl_DocField F d n) fun r => M.impl_TermsOf F c r) = some (termsS c (fieldS d n)) := by
 have h1 := conf_stops hc
 have h2 := field_text hd n
 have h3 := text_len h2
 rw [impl_docField, hd, if_pos rfl, Option.bind_some, impl_terms F c _ (by omega) (by omega) (by omega), hc, h2]; rfl
def postW (id : Int) (p : GPost) : Nat := if p.Doc == id then p.At.length else 0
def entryW (n : Str) (id : Int) (e : GEntry) : Nat := if e.Field == n then (e.Posts.map (postW id)).sum else 0
theorem foldl_sum {α : Type} (w : α → Nat) : ∀ (l : List α) (a : Nat), l.foldl (fun a x => a + w x) a = a + (l.map w).sum
 | [], a => by simp
 | x :: l, a => by rw [List.foldl_cons, foldl_sum w l, List.map_cons, List.sum_cons]; omega
theorem postW_le {B : Nat} {id : Int} {p : GPost} (h : p.At.length ≤ B) : postW id p ≤ B := by unfold postW; split <;> omega
theorem sum_le {α : Type} {w : α → Nat} {B : Nat} : ∀ l : List α, (∀ x ∈ l, w x ≤ B) → (l.map w).sum ≤ l.length * B
 | [], _ => by simp
 | x :: l, h => by
  have h1 := h x (by simp)
  have h2 := sum_le l fun y hy => h y (by simp [hy])
  rw [List.map_cons, List.sum_cons, List.length_cons, Nat.add_mul]; omega
theorem entryW_le {n : Str} {id : Int} {e : GEntry} (h : e.Posts.length ≤ 10000 ∧ ∀ p ∈ e.Posts, p.At.length ≤ 10000) : entryW n id e ≤ 100000000 := by
 have := sum_le (w := postW id) (B := 10000) e.Posts fun p hp => postW_le (h.2 p hp)
 have h1 := h.1
 unfold entryW
 split <;> omega
theorem spec_long (F : Nat) (s : GSeg) (n : Str) (id : Int) (h : Fits 10000 s.Entries) (hF : 20000 < F) : M.spec_l7Long F s n id = some (((s.Entries.map (entryW n id)).sum : Nat) : Int) := by
 have hl := h.1
 unfold M.spec_l7Long
 rw [(fold_while (xs := s.Entries) (fun a e => a + entryW n id e) (fun i (a : Nat) => a ≤ i * 100000000) (fun a => (a : Int)) (fun a i => ((a : Int), i)) (s0 := ((0 : Int), (0 : Int))) 0 rfl F (by omega) (by simp) (fun i e a hx ha => ?_) (fun a ha => ?_)).1, foldl_sum]
 ·rw [Nat.zero_add]; rfl
 ·have hi := (List.getElem?_eq_some_iff.1 hx).1
  have hp := h.2 e (List.mem_of_getElem? hx)
  have hw := entryW_le (n := n) (id := id) hp
  have hp1 := hp.1
  refine ⟨?_, by omega⟩
  simp only
  rw [decide_eq_true (by omega), cond_true]
  cases hfn : e.Field == n
  ·have e0 : entryW n id e = 0 := by unfold entryW; rw [hfn]; rfl
   obtain ⟨G, rfl⟩ : ∃ G, F = G + 1 := ⟨F - 1, by omega⟩
   rw [whileM]
   simp only
   rw [getI_nat', hx]
   simp only [Option.bind_some, hfn]
   have hz : (bif decide ((0 : Int) < (e.Posts.length : Int)) then some false else some false) = some false := by cases decide ((0 : Int) < (e.Posts.length : Int)) <;> rfl
   rw [hz]
   simp only [Option.bind_some, cond_false, Sum.elim_inr]
   rw [w64_succ' (by omega), e0]; rfl
  ·rw [(fold_while (xs := e.Posts) (fun a p => a + postW id p) (fun j (b : Nat) => b ≤ i * 100000000 + j * 10000) (fun a => (a : Int)) (fun a i => ((a : Int), i)) (s0 := ((a : Int), (0 : Int))) a rfl F (by omega) (by rw [Nat.zero_mul, Nat.add_zero]; exact ha) (fun j p b hxj hb => ?_) (fun b hb => ?_)).1, foldl_sum]
   ·rw [Option.bind_some, Option.bind_some, w64_succ' (by omega)]
    have : entryW n id e = (e.Posts.map (postW id)).sum := by unfold entryW; rw [hfn]; rfl
    rw [this]
   ·have hj := (List.getElem?_eq_some_iff.1 hxj).1
    have hpw := postW_le (id := id) (hp.2 p (List.mem_of_getElem? hxj))
    have hpa := hp.2 p (List.mem_of_getElem? hxj)
    refine ⟨?_, by omega⟩
    simp only
    rw [getI_nat', hx]
    simp only [Option.bind_some, hfn]
    rw [decide_eq_true (by omega), cond_true, Option.bind_some, cond_true, getI_nat', hxj, Option.bind_some, Option.bind_some, w64_succ' (by omega)]
    unfold postW
    rw [if_bif]
    cases p.Doc == id
    ·rfl
    ·rw [cond_true, cond_true, show (b : Int) + (p.At.length : Int) = ((b + p.At.length : Nat) : Int) by omega, w64_nat (by omega)]
   ·simp only
    rw [getI_nat', hx]
    simp only [Option.bind_some]
    rw [decide_eq_false (by omega)]; rfl
 ·simp only
  rw [decide_eq_false (by omega)]; rfl
theorem sum_pick {α : Type} [DecidableEq α] {w : α → Nat} {a : α} : ∀ l : List α, l.Nodup → (∀ x ∈ l, x ≠ a → w x = 0) → (l.map w).sum = if a ∈ l then w a else 0
 | [], _, _ => by simp
 | x :: l, hn, h => by
  have hc := List.nodup_cons.1 hn
  have ih := sum_pick l hc.2 fun y hy => h y (by simp [hy])
  rw [List.map_cons, List.sum_cons, ih]
  by_cases e : x = a
  ·subst e
   rw [if_neg hc.1, if_pos (by simp)]; rfl
  ·rw [h x (by simp) e, Nat.zero_add]
   have : (a ∈ x :: l) ↔ a ∈ l := by rw [List.mem_cons]; exact ⟨fun q => q.resolve_left fun k => e k.symm, .inr⟩
   simp only [this]
theorem sum_add {α : Type} (v w : α → Nat) : ∀ l : List α, (l.map fun x => v x + w x).sum = (l.map v).sum + (l.map w).sum
 | [] => rfl
 | x :: l => by simp only [List.map_cons, List.sum_cons, sum_add v w l]; omega
theorem sum_flat {α β : Type} (f : α → List β) (w : β → Nat) : ∀ l : List α, ((l.flatMap f).map w).sum = (l.map fun x => ((f x).map w).sum).sum
 | [] => rfl
 | x :: l => by rw [List.flatMap_cons, List.map_append, List.sum_append, sum_flat f w l]; rfl
theorem sum_zero {α : Type} : ∀ l : List α, (l.map fun _ => 0).sum = 0
 | [] => rfl
 | x :: l => by rw [List.map_cons, List.sum_cons, sum_zero l]
theorem count_sum {T : List Str} (hT : T.Nodup) : ∀ l : List GTerm, (∀ x ∈ l, x.Text ∈ T) → (T.map fun t => (l.flatMap fun x => if x.Text == t then [x.At] else []).length).sum = l.length
 | [], _ => by
  exact sum_zero T
 | x :: l, h => by
  have ih := count_sum hT l fun y hy => h y (by simp [hy])
  have : (fun t => ((x :: l).flatMap fun x => if x.Text == t then [x.At] else []).length) = fun t => (if x.Text == t then 1 else 0) + (l.flatMap fun x => if x.Text == t then [x.At] else []).length := by
   funext t
   rw [List.flatMap_cons, List.length_append, if_bif, if_bif]
   cases x.Text == t <;> rfl
  rw [this, sum_add, ih, sum_pick (a := x.Text) T hT (fun t _ ht => by rw [beq_eq_false_iff_ne.2 fun e => ht e.symm]; rfl), if_pos (h x (by simp)), beq_self_eq_true, List.length_cons]
  simp; omega
theorem find_gt {docs : List GDoc} {d : GDoc} {id : Int} (h : ∀ e ∈ docs, d.Id < e.Id) (hd : d.Id = id) : docs.find? (fun e => e.Id == id) = none :=
 List.find?_eq_none.2 fun e he k => by have := h e he; have := eq_of_beq k; omega
theorem posts_sum (c : GConf) (n t : Str) (id : Int) : ∀ docs : List GDoc, (docs.Pairwise fun a b => a.Id < b.Id) → ((docs.flatMap (docPost c n t)).map (postW id)).sum = (docs.find? fun d => d.Id == id).elim 0 fun d => (postS c d n t).length
 | [], _ => rfl
 | d :: r, hd => by
  have hc := List.pairwise_cons.1 hd
  have ih := posts_sum c n t id r hc.2
  rw [List.flatMap_cons, List.map_append, List.sum_append, ih, List.find?_cons]
  have hone : ((docPost c n t d).map (postW id)).sum = if d.Id == id then (postS c d n t).length else 0 := by
   unfold docPost
   by_cases h0 : 0 < (postS c d n t).length
   ·rw [decide_eq_true h0, if_pos rfl]; simp [postW]
   ·rw [decide_eq_false h0, if_neg (by simp)]
    have : (postS c d n t).length = 0 := by omega
    rw [this]; simp
  rw [hone]
  cases hid : d.Id == id
  ·rw [if_neg (by simp), Nat.zero_add]
  ·rw [if_pos rfl, find_gt hc.1 (eq_of_beq hid)]; rfl
theorem long_sum {c : GConf} {docs : List GDoc} (hg : DocsGood docs) (n : Str) (id : Int) : ((segS c docs).Entries.map (entryW n id)).sum = fieldLen c docs n id := by
 have hnn : (namesS docs).Nodup := (show List.Pairwise (fun a b => strLess a b = true) (namesS docs) from names_sorted docs).imp fun {a b} k e => by subst e; rw [sl_irrefl] at k; cases k
 have htn : (ftermsS c docs n).Nodup := (show List.Pairwise (fun a b => strLess a b = true) (ftermsS c docs n) from fterms_sorted c docs n).imp fun {a b} k e => by subst e; rw [sl_irrefl] at k; cases k
 show (((namesS docs).flatMap fun n => (ftermsS c docs n).map (entryS c docs n)).map (entryW n id)).sum = _
 rw [sum_flat, sum_pick (a := n) _ hnn (fun m _ hm => ?_)]
 ·have hin : ((ftermsS c docs n).map (entryS c docs n)).map (entryW n id) = (ftermsS c docs n).map fun t => (docs.find? fun d => d.Id == id).elim 0 fun d => (postS c d n t).length := by
   rw [List.map_map]
   refine List.map_congr_left fun t _ => ?_
   show entryW n id (entryS c docs n t) = _
   unfold entryW entryS
   simp only [beq_self_eq_true, if_true]
   exact posts_sum c n t id docs hg.ids
  rw [hin]
  unfold fieldLen
  cases hf : docs.find? fun d => d.Id == id with
  | none =>
   simp only [Option.elim_none]
   split
   ·exact sum_zero _
   ·rfl
  | some d =>
   have hdm := List.mem_of_find?_eq_some hf
   simp only [Option.elim_some]
   by_cases hm : n ∈ namesS docs
   ·rw [if_pos hm]
    exact count_sum htn _ fun x hx => mem_fterms.2 ⟨d, hdm, x, hx, rfl⟩
   ·rw [if_neg hm]
    have : fieldS d n = [] := by
     unfold fieldS
     cases hff : d.Fields.find? fun f => f.Name == n with
     | none => rfl
     | some f => exact absurd (mem_names.2 ⟨d, hdm, f, List.mem_of_find?_eq_some hff, eq_of_beq (List.find?_some (p := fun f : GField => f.Name == n) hff)⟩) hm
    rw [this, terms_nil]; rfl
 ·have : ((ftermsS c docs m).map (entryS c docs m)).map (entryW n id) = (ftermsS c docs m).map fun _ => 0 := by
   rw [List.map_map]
   refine List.map_congr_left fun t _ => ?_
   show entryW n id (entryS c docs m t) = 0
   unfold entryW
   have : ((entryS c docs m t).Field == n) = false := beq_eq_false_iff_ne.2 hm
   rw [this]; rfl
  rw [this]
  exact sum_zero _
end Go.Fk
