/-
  The draws of configurations and segments go through. Of no program.
-/
import Derived.Test.YtoeajphlomankaaGreatDoorLawSegKL
import Derived.Test.YtoeajphlomankaaGreatDoorLawDrawDocs
set_option linter.unusedVariables false
namespace Go.Fk
open Go
def stopsD : List (List Str) := [[], [[116, 104, 101]], [[100, 111, 103], [116, 104, 101]]]
def synsD : List (List GSyn) := [[], [⟨[[110, 101, 119], [121, 111, 114, 107]], [110, 121]⟩], [⟨[[98, 105, 103]], [108, 97, 114, 103]⟩, ⟨[[98, 105, 103], [114, 101, 100], [102, 111, 120]], [102, 111, 120]⟩, ⟨[[110, 101, 119], [121, 111, 114, 107]], [110, 121]⟩]]
def ConfDrawn (c : GConf) : Prop := c.Stops ∈ stopsD ∧ c.Syns ∈ synsD
theorem confs_good : (stopsD.all fun a => synsD.all fun b => confS ⟨a, b⟩) = true := by decide +kernel
theorem ConfDrawn.good {c : GConf} (h : ConfDrawn c) : confS c = true := by
 have := List.all_eq_true.1 (List.all_eq_true.1 confs_good c.Stops h.1) c.Syns h.2
 exact this
theorem conf_ok (F : Nat) (r : GL30Rd) (hr : RdAt r 900000) : ∃ c p, M.spec_l30Conf F r = some (c, ⟨r.b_, p⟩) ∧ Drew r p 3 ∧ ConfDrawn c := by
 obtain ⟨h1, h2, h3⟩ := hr
 unfold M.spec_l30Conf
 obtain ⟨a, ha, _, _⟩ := pick_ok F r 3 ⟨h1, h2, by omega⟩
 obtain ⟨b, hb, _, _⟩ := pick_ok F ⟨r.b_, r.p_ + 1⟩ 4 ⟨h1, by simp only; omega, by simp only; omega⟩
 obtain ⟨d, hd, _, _⟩ := pick_ok F ⟨r.b_, r.p_ + 1 + 1⟩ 4 ⟨h1, by simp only; omega, by simp only; omega⟩
 rw [ha, Option.bind_some]
 have c1 : ∃ st, (cond (decide ((0 : Int) < a)) (some (GConf.mk ([([116, 104, 101] : Str)] : List Str) ([] : List GSyn))) (some (GConf.mk ([] : List Str) ([] : List GSyn)))) = some (GConf.mk st []) ∧ st ∈ stopsD := by
  cases decide ((0 : Int) < a)
  ·exact ⟨_, rfl, by simp [stopsD]⟩
  ·exact ⟨_, rfl, by simp [stopsD]⟩
 obtain ⟨st, e1, m1⟩ := c1
 have e1' : (cond (decide ((0 : Int) < (a, GL30Rd.mk r.b_ (r.p_ + 1)).1)) (some (GConf.mk ([([116, 104, 101] : Str)] : List Str) ([] : List GSyn))) (some (GConf.mk ([] : List Str) ([] : List GSyn)))) = some (GConf.mk st []) := e1
 rw [e1', Option.bind_some]
 dsimp only
 rw [hb, Option.bind_some]
 dsimp only
 have c2 : ∃ st', (cond (b == (0 : Int)) (some (GConf.mk ([([100, 111, 103] : Str), ([116, 104, 101] : Str)] : List Str) ([] : List GSyn))) (some (GConf.mk st []))) = some (GConf.mk st' []) ∧ st' ∈ stopsD := by
  cases b == (0 : Int)
  ·exact ⟨_, rfl, m1⟩
  ·exact ⟨_, rfl, by simp [stopsD]⟩
 obtain ⟨st', e2, m2⟩ := c2
 rw [e2, Option.bind_some, hd, Option.bind_some]
 dsimp only
 cases d == (0 : Int)
 ·cases d == (1 : Int)
  ·exact ⟨_, _, rfl, ⟨by omega, by omega⟩, m2, by simp [synsD]⟩
  ·exact ⟨_, _, rfl, ⟨by omega, by omega⟩, m2, by simp [synsD]⟩
 ·exact ⟨_, _, rfl, ⟨by omega, by omega⟩, m2, by simp [synsD]⟩
theorem fits_of_mem {B : Nat} {c : GConf} (h1 : c.Stops.length ≤ B ∧ ∀ s ∈ c.Stops, s.length ≤ B) (h2 : c.Syns.length ≤ B ∧ ∀ r ∈ c.Syns, r.To.length ≤ B ∧ r.From.length ≤ B ∧ ∀ w ∈ r.From, w.length ≤ B) : ConfFit B c := by
 constructor
 ·exact h1
 ·exact ⟨h2.1, fun r hr => ⟨(h2.2 r hr).2.1, (h2.2 r hr).1, (h2.2 r hr).2.2⟩⟩
theorem stops_fit : ∀ a ∈ stopsD, a.length ≤ 90 ∧ ∀ s ∈ a, s.length ≤ 100 := by decide
theorem syns_fit : ∀ a ∈ synsD, a.length ≤ 90 ∧ ∀ r ∈ a, r.To.length ≤ 100 ∧ r.From.length ≤ 100 ∧ ∀ w ∈ r.From, w.length ≤ 100 := by decide
theorem ConfDrawn.fit {c : GConf} (h : ConfDrawn c) : ConfFit 100 c := by
 obtain ⟨a1, a2⟩ := stops_fit _ h.1
 obtain ⟨b1, b2⟩ := syns_fit _ h.2
 exact fits_of_mem ⟨by omega, a2⟩ ⟨by omega, b2⟩
theorem entries_len {c : GConf} {docs : List GDoc} (hd : DocsFit docs) : (segS c docs).Entries.length ≤ 1000000000 := by
 have h1 := names_len hd
 have h2 := flat_le (g := fun n => (ftermsS c docs n).map (entryS c docs n)) (m := 100000) (namesS docs) fun n _ => by rw [List.length_map]; exact fterms_len c hd n
 unfold segS
 show ((namesS docs).flatMap fun n => (ftermsS c docs n).map (entryS c docs n)).length ≤ _
 omega
theorem seg_ok (F : Nat) (r : GL30Rd) (hr : RdAt r 1000) (hF : 200000 < F) : ∃ c docs p, M.spec_l30Seg F r = some (c, segS c docs, ⟨r.b_, p⟩) ∧ Drew r p 2003 ∧ ConfDrawn c ∧ DocsFit docs := by
 obtain ⟨h1, h2, h3⟩ := hr
 unfold M.spec_l30Seg
 obtain ⟨c, p, hc, ⟨q1, q2⟩, hd⟩ := conf_ok F r ⟨h1, h2, by omega⟩
 obtain ⟨docs, p', hdc, ⟨q3, q4⟩, hdr⟩ := docs_ok F ⟨r.b_, p⟩ ⟨h1, by simp only; omega, by simp only; omega⟩ (by omega)
 simp only at q3 q4
 rw [hc, Option.bind_some]
 dsimp only
 rw [hdc, Option.bind_some]
 dsimp only
 rw [spec_seg F c docs hd.good (hdr.fit (by omega)) hF]
 exact ⟨c, docs, p', rfl, ⟨by omega, by omega⟩, hd, hdr.fit (by omega)⟩
theorem anySeg_ok (F : Nat) (r : GL30Rd) (hr : RdAt r 1000) (hF : 200000 < F) : ∃ c s p, M.spec_l30AnySeg F r = some (c, s, ⟨r.b_, p⟩) ∧ Drew r p 2005 ∧ ConfDrawn c ∧ DocsFit s.Docs ∧ s.Entries.length ≤ 1000000001 := by
 obtain ⟨h1, h2, h3⟩ := hr
 unfold M.spec_l30AnySeg
 obtain ⟨c, docs, p, hs, ⟨q1, q2⟩, hd, hf⟩ := seg_ok F r ⟨h1, h2, h3⟩ hF
 have hel := entries_len (c := c) hf
 rw [hs, Option.bind_some]
 dsimp only
 by_cases h0 : (0 : Int) < ((segS c docs).Entries.length : Int)
 ·obtain ⟨i, hi, i0, i1⟩ := pick_ok F ⟨r.b_, p⟩ ((segS c docs).Entries.length : Int) ⟨h1, by simp only; omega, by simp only; omega⟩
  obtain ⟨x, hx, _, _⟩ := pick_ok F ⟨r.b_, p + 1⟩ 16 ⟨h1, by simp only; omega, by simp only; omega⟩
  obtain ⟨e, he⟩ := getI_lt i0 (i1 (by omega))
  rw [decide_eq_true h0, cond_true, hi, Option.bind_some]
  dsimp only
  rw [hx, Option.bind_some]
  dsimp only
  cases x == (0 : Int)
  ·cases x == (1 : Int)
   ·cases x == (2 : Int)
    ·exact ⟨_, _, _, rfl, ⟨by omega, by omega⟩, hd, hf, by omega⟩
    ·have hne : 1 ≤ docs.length := by
      rcases Nat.eq_zero_or_pos docs.length with h | h
      ·rw [List.eq_nil_of_length_eq_zero h] at h0
       simp [segS, namesS] at h0
      ·exact h
     rw [cond_false, cond_false, cond_true, show (1 : Int) = ((1 : Nat) : Int) from rfl, show (segS c docs).Docs = docs from rfl, subL_tail hne, Option.bind_some]
     exact ⟨_, _, _, rfl, ⟨by omega, by omega⟩, hd, ⟨by have := hf.few; simp only [List.length_drop]; omega, fun d hm => hf.doc d (List.mem_of_mem_drop hm)⟩, by simp only; omega⟩
   ·rw [cond_false, cond_true, he, Option.bind_some, catLok (by simp only [List.length_singleton]; omega), Option.bind_some]
    exact ⟨_, _, _, rfl, ⟨by omega, by omega⟩, hd, hf, by simp only [List.length_append, List.length_singleton]; omega⟩
  ·rw [cond_true, he, Option.bind_some]
   exact ⟨_, _, _, rfl, ⟨by omega, by omega⟩, hd, hf, by simp only [List.length_set]; omega⟩
 ·rw [decide_eq_false h0, cond_false]
  exact ⟨_, _, _, rfl, ⟨by omega, by omega⟩, hd, hf, by omega⟩
theorem lfield_ok (F : Nat) (r : GL30Rd) (hr : RdAt r 900000) : ∃ s p, M.spec_l30Field F r = some (s, ⟨r.b_, p⟩) ∧ Drew r p 1 ∧ s.length ≤ 10 := by
 obtain ⟨h1, h2, h3⟩ := hr
 unfold M.spec_l30Field
 obtain ⟨s, hs, e⟩ := of_ok F r [[98, 111, 100, 121], [98, 111, 100, 121], [116, 105, 116, 108, 101], [110, 111, 110, 101]] ⟨h1, h2, by omega⟩ (by simp)
 rw [e, Option.bind_some]
 exact ⟨s, _, rfl, ⟨by omega, by omega⟩, (by decide : ∀ s ∈ ([[98, 111, 100, 121], [98, 111, 100, 121], [116, 105, 116, 108, 101], [110, 111, 110, 101]] : List Str), s.length ≤ 10) s hs⟩
end Go.Fk
