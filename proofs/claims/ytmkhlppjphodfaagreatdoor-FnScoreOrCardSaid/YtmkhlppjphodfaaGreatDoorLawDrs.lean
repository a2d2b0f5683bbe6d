import Derived.Test.YtmkhlppjphodfaaGreatDoorLawRdAll
import Derived.Test.YtmkhlppjphodfaaGreatDoorLawDocs
import Derived.Test.YtmkhlppjphodfaaGreatDoorLawSegKL
import Derived.Test.YtmkhlppjphodfaaGreatDoorLawQs
/-
  The draws of documents go through, whatever the code. Of no program.
-/
namespace Go.Fk
open Go
def a9N (r : u5) (p : Int) (c : Nat) : Prop := r.p_ ≤ p ∧ p ≤ r.p_ + c
def b34 (r : u5) (m : Nat) : Prop := r.b_.length ≤ 2000 ∧ 0 ≤ r.p_ ∧ r.p_ ≤ m
structure N8 (f n : Nat) (d : s7) : Prop where
 fields : d.Fields.length ≤ f
 nums : d.Nums.length ≤ n
 field : ∀ f ∈ d.Fields, f.Name.length ≤ 1000 ∧ f.Text.length ≤ 1000
 num : ∀ a ∈ d.Nums, a.Name.length ≤ 1000
theorem N8.fit {f n : Nat} {d : s7} (h : N8 f n d) (hf : f ≤ 100) (hn : n ≤ 100) : a4v d := ⟨by have := h.fields; omega, by have := h.nums; omega, h.field, h.num⟩
theorem N8.putField {f n : Nat} {i : Int} {a : List I5} {b : List a2r} (h : N8 f n ⟨i, a, b⟩) (x : I5) (hx : x.Name.length ≤ 1000 ∧ x.Text.length ≤ 1000) : N8 (f + 1) n ⟨i, a ++ [x], b⟩ := by
 refine ⟨by have := h.fields; simp only [k7, k5] at this ⊢; omega, h.nums, fun y hy => ?_, h.num⟩
 rcases List.mem_append.1 hy with hy | hy
 ·exact h.field y hy
 ·rw [List.mem_singleton.1 hy]; exact hx
theorem N8.putNum {f n : Nat} {i : Int} {a : List I5} {b : List a2r} (h : N8 f n ⟨i, a, b⟩) (x : a2r) (hx : x.Name.length ≤ 1000) : N8 f (n + 1) ⟨i, a, b ++ [x]⟩ := by
 refine ⟨h.fields, by have := h.nums; simp only [k7, k5] at this ⊢; omega, h.field, fun y hy => ?_⟩
 rcases List.mem_append.1 hy with hy | hy
 ·exact h.num y hy
 ·rw [List.mem_singleton.1 hy]; exact hx
theorem N8.more {f n f' n' : Nat} {d : s7} (h : N8 f n d) (hf : f ≤ f') (hn : n ≤ n') : N8 f' n' d := ⟨by have := h.fields; omega, by have := h.nums; omega, h.field, h.num⟩
theorem b74 (F : Nat) (r : u5) (id : Int) (hr : b34 r 900000) (hF : 20 ≤ F) : ∃ d p, a1d F r id = some (d, ⟨r.b_, p⟩) ∧ a9N r p 300 ∧ N8 2 2 d := by
 obtain ⟨h1, h2, h3⟩ := hr
 have hm : 10000 ≤ maxLen := by decide
 unfold a1d
 have e0 : N8 0 0 ⟨id, [], []⟩ := ⟨by simp, by simp, by simp, by simp⟩
 obtain ⟨a1, ha1, _, _⟩ := J3 F r 6 ⟨h1, by omega, by omega⟩
 rw [ha1, a8]
 dsimp only
 -- the first field
 have s1 : ∃ d p, (cond (decide ((0 : Int) < a1)) (Option.bind (O2 F ⟨r.b_, r.p_ + 1⟩) fun r58 => (Option.bind (L8 32 ([] : List I5) ([(I5.mk ([98, 111, 100, 121] : k6) r58.1)] : List I5)) fun x79 => (some (r58.2, (s7.mk id x79 ([] : List a2r)))))) (some ((⟨r.b_, r.p_ + 1⟩ : u5), (s7.mk id ([] : List I5) ([] : List a2r)))) : Option (u5 × s7)) = some (⟨r.b_, p⟩, d) ∧ a9N r p 101 ∧ N8 1 0 d := by
  cases decide ((0 : Int) < a1)
  ·exact ⟨_, _, rfl, ⟨by omega, by omega⟩, e0.more (by omega) (by omega)⟩
  ·obtain ⟨s, p, hs, q0, q1, ql⟩ := b3W F ⟨r.b_, r.p_ + 1⟩ ⟨h1, by simp only; omega, by simp only; omega⟩ hF
   simp only at q0 q1
   rw [i4, hs, a8, G7 (by simp)]
   exact ⟨_, _, rfl, ⟨by omega, by omega⟩, e0.putField _ ⟨by simp, by simp only; omega⟩⟩
 obtain ⟨d1, p1, hs1, ⟨q1, q2⟩, hd1⟩ := s1
 rw [hs1, a8]
 dsimp only
 obtain ⟨a2, ha2, _, _⟩ := J3 F ⟨r.b_, p1⟩ 3 ⟨h1, by simp only; omega, by simp only; omega⟩
 rw [ha2, a8]
 dsimp only
 have s2 : ∃ d p, (cond (a2 == (0 : Int)) (Option.bind (O2 F ⟨r.b_, p1 + 1⟩) fun r144 => (Option.bind (L8 32 d1.Fields ([(I5.mk ([116, 105, 116, 108, 101] : k6) r144.1)] : List I5)) fun x165 => (some (r144.2, (s7.mk d1.Id x165 d1.Nums))))) (some ((⟨r.b_, p1 + 1⟩ : u5), d1)) : Option (u5 × s7)) = some (⟨r.b_, p⟩, d) ∧ a9N r p 202 ∧ N8 2 0 d := by
  cases a2 == (0 : Int)
  ·exact ⟨_, _, rfl, ⟨by omega, by omega⟩, hd1.more (by omega) (by omega)⟩
  ·obtain ⟨s, p, hs, w0, w1, wl⟩ := b3W F ⟨r.b_, p1 + 1⟩ ⟨h1, by simp only; omega, by simp only; omega⟩ hF
   simp only at w0 w1
   have := hd1.fields
   rw [i4, hs, a8, G7 (by simp only [k5]; omega)]
   exact ⟨_, _, rfl, ⟨by omega, by omega⟩, hd1.putField _ ⟨by simp, by simp only; omega⟩⟩
 obtain ⟨d2, p2, hs2, ⟨q3, q4⟩, hd2⟩ := s2
 rw [hs2, a8]
 dsimp only
 obtain ⟨a3, ha3, _, _⟩ := J3 F ⟨r.b_, p2⟩ 3 ⟨h1, by simp only; omega, by simp only; omega⟩
 rw [ha3, a8]
 dsimp only
 have s3 : ∃ d p, (cond (decide ((0 : Int) < a3)) (Option.bind (a0p F ⟨r.b_, p2 + 1⟩ (4 : Int)) fun r224 => (Option.bind (L8 24 d2.Nums ([(a2r.mk ([114, 97, 116, 101] : k6) r224.1)] : List a2r)) fun x245 => (some (r224.2, (s7.mk d2.Id d2.Fields x245))))) (some ((⟨r.b_, p2 + 1⟩ : u5), d2)) : Option (u5 × s7)) = some (⟨r.b_, p⟩, d) ∧ a9N r p 204 ∧ N8 2 1 d := by
  cases decide ((0 : Int) < a3)
  ·exact ⟨_, _, rfl, ⟨by omega, by omega⟩, hd2.more (by omega) (by omega)⟩
  ·obtain ⟨x, hx, _, _⟩ := J3 F ⟨r.b_, p2 + 1⟩ 4 ⟨h1, by simp only; omega, by simp only; omega⟩
   have := hd2.nums
   rw [i4, hx, a8, G7 (by simp only [k5]; omega)]
   exact ⟨_, p2 + 1 + 1, rfl, ⟨by omega, by omega⟩, hd2.putNum _ (by simp)⟩
 obtain ⟨d3, p3, hs3, ⟨q5, q6⟩, hd3⟩ := s3
 rw [hs3, a8]
 dsimp only
 obtain ⟨a4, ha4, _, _⟩ := J3 F ⟨r.b_, p3⟩ 3 ⟨h1, by simp only; omega, by simp only; omega⟩
 rw [ha4, a8]
 dsimp only
 cases a4 == (0 : Int)
 ·exact ⟨_, _, rfl, ⟨by omega, by omega⟩, hd3.more (by omega) (by omega)⟩
 ·obtain ⟨x, hx, _, _⟩ := J3 F ⟨r.b_, p3 + 1⟩ 30 ⟨h1, by simp only; omega, by simp only; omega⟩
  have := hd3.nums
  rw [i4, hx, a8, G7 (by simp only [k5]; omega)]
  exact ⟨_, p3 + 1 + 1, rfl, ⟨by omega, by omega⟩, hd3.putNum _ (by simp)⟩
def a3F (k : Nat) (ds : List s7) : Prop := ds.length ≤ k ∧ ∀ d ∈ ds, N8 3 3 d
theorem a3F.fit {k : Nat} {ds : List s7} (h : a3F k ds) (hk : k ≤ 100) : X0 ds := ⟨by have := h.1; omega, fun d hd => (h.2 d hd).fit (by omega) (by omega)⟩
theorem b6A (F : Nat) (r : u5) (hr : b34 r 100000) (hF : 20 ≤ F) : ∃ ds p, a0C F r = some (ds, ⟨r.b_, p⟩) ∧ a9N r p 2000 ∧ a3F 5 ds := by
 obtain ⟨h1, h2, h3⟩ := hr
 unfold a0C
 obtain ⟨n, hn, n0, n1⟩ := J3 F r 6 ⟨h1, h2, by omega⟩
 have n1 := n1 (by decide)
 rw [hn, a8]
 dsimp only
 generalize hf : (fun (s44 : (List s7) × Int × Int × u5) => _ : (List s7) × Int × Int × u5 → Option (((List s7) × Int × Int × u5) ⊕ ((List s7) × u5))) = f
 have key : ∀ (k : Nat) (ds : List s7) (id p : Int) (F : Nat), k + 1 ≤ F → 0 ≤ p → p + 301 * k ≤ 800000 → a3F (5 - k) ds → k ≤ 5 → ∃ ds' p', r4 f F (ds, id, (k : Int), ⟨r.b_, p⟩) = some (ds', ⟨r.b_, p'⟩) ∧ p ≤ p' ∧ p' ≤ p + 301 * k ∧ a3F 5 ds' := by
  intro k
  induction k with
  | zero =>
   intro ds id p F hF _ _ hd _
   obtain ⟨F, rfl⟩ : ∃ G, F = G + 1 := ⟨F - 1, by omega⟩
   rw [r4]
   subst hf
   exact ⟨ds, p, rfl, by omega, by omega, hd⟩
  | succ k ih =>
   intro ds id p F' hF' p0 p1 hs hk
   obtain ⟨F', rfl⟩ : ∃ G, F' = G + 1 := ⟨F' - 1, by omega⟩
   obtain ⟨a, ha, _, _⟩ := J3 F ⟨r.b_, p⟩ 3 ⟨h1, p0, by simp only; omega⟩
   obtain ⟨d, q, hdq, ⟨q0, q1⟩, hdd⟩ := b74 F ⟨r.b_, p + 1⟩ (u6 (u6 (id + 1) + a)) ⟨h1, by simp only; omega, by simp only; omega⟩ hF
   simp only at q0 q1
   have hs1 := hs.1
   have hstep : f (ds, id, ((k + 1 : Nat) : Int), ⟨r.b_, p⟩) = some (.inl (ds ++ [d], u6 (u6 (id + 1) + a), (k : Int), ⟨r.b_, q⟩)) := by
    rw [← hf]
    dsimp only
    have c3 : u6 (((k + 1 : Nat) : Int) - 1) = (k : Int) := by rw [y8 ⟨by omega, by omega⟩]; omega
    rw [c7 (by omega), i4, ha, a8]
    dsimp only
    rw [hdq, a8, G7 (by simp only [k5]; omega), a8, c3]
   rw [r4, hstep]
   simp only [a8, Sum.elim_inl]
   obtain ⟨ws', p', hw, a1, a2, a3⟩ := ih (ds ++ [d]) (u6 (u6 (id + 1) + a)) q F' (by omega) (by omega) (by omega) ⟨by simp only [k7, k5]; omega, fun x hx => by
    rcases List.mem_append.1 hx with h | h
    ·exact hs.2 x h
    ·rw [List.mem_singleton.1 h]; exact hdd.more (by omega) (by omega)⟩ (by omega)
   exact ⟨ws', p', hw, by omega, by omega, a3⟩
 obtain ⟨k, rfl⟩ := Int.eq_ofNat_of_zero_le n0
 obtain ⟨s', p', hw, a1, a2, a3⟩ := key k [] 0 (r.p_ + 1) F (by omega) (by omega) (by omega) ⟨by simp, by simp⟩ (by omega)
 rw [hw]
 exact ⟨s', p', rfl, ⟨by omega, by omega⟩, a3⟩
end Go.Fk
set_option linter.unusedVariables false
namespace Go.Fk
open Go
def a5b : List (List k6) := [[], [[116, 104, 101]], [[100, 111, 103], [116, 104, 101]]]
def b0z : List (List Q0) := [[], [⟨[[110, 101, 119], [121, 111, 114, 107]], [110, 121]⟩], [⟨[[98, 105, 103]], [108, 97, 114, 103]⟩, ⟨[[98, 105, 103], [114, 101, 100], [102, 111, 120]], [102, 111, 120]⟩, ⟨[[110, 101, 119], [121, 111, 114, 107]], [110, 121]⟩]]
def a10 (c : q9) : Prop := c.Stops ∈ a5b ∧ c.Syns ∈ b0z
theorem b2K : (a5b.all fun a => b0z.all fun b => Q9 ⟨a, b⟩) = true := by decide +kernel
theorem a10.good {c : q9} (h : a10 c) : Q9 c = true := by
 have := List.all_eq_true.1 (List.all_eq_true.1 b2K c.Stops h.1) c.Syns h.2
 exact this
theorem b6x (F : Nat) (r : u5) (hr : b34 r 900000) : ∃ c p, a0B F r = some (c, ⟨r.b_, p⟩) ∧ a9N r p 3 ∧ a10 c := by
 obtain ⟨h1, h2, h3⟩ := hr
 unfold a0B
 obtain ⟨a, ha, _, _⟩ := J3 F r 3 ⟨h1, h2, by omega⟩
 obtain ⟨b, hb, _, _⟩ := J3 F ⟨r.b_, r.p_ + 1⟩ 4 ⟨h1, by simp only; omega, by simp only; omega⟩
 obtain ⟨d, hd, _, _⟩ := J3 F ⟨r.b_, r.p_ + 1 + 1⟩ 4 ⟨h1, by simp only; omega, by simp only; omega⟩
 rw [ha, a8]
 have c1 : ∃ st, (cond (decide ((0 : Int) < a)) (some (q9.mk ([([116, 104, 101] : k6)] : List k6) ([] : List Q0))) (some (q9.mk ([] : List k6) ([] : List Q0)))) = some (q9.mk st []) ∧ st ∈ a5b := by
  cases decide ((0 : Int) < a)
  ·exact ⟨_, rfl, by simp [a5b]⟩
  ·exact ⟨_, rfl, by simp [a5b]⟩
 obtain ⟨st, e1, m1⟩ := c1
 have e1' : (cond (decide ((0 : Int) < (a, u5.mk r.b_ (r.p_ + 1)).1)) (some (q9.mk ([([116, 104, 101] : k6)] : List k6) ([] : List Q0))) (some (q9.mk ([] : List k6) ([] : List Q0)))) = some (q9.mk st []) := e1
 rw [e1', a8]
 dsimp only
 rw [hb, a8]
 dsimp only
 have c2 : ∃ st', (cond (b == (0 : Int)) (some (q9.mk ([([100, 111, 103] : k6), ([116, 104, 101] : k6)] : List k6) ([] : List Q0))) (some (q9.mk st []))) = some (q9.mk st' []) ∧ st' ∈ a5b := by
  cases b == (0 : Int)
  ·exact ⟨_, rfl, m1⟩
  ·exact ⟨_, rfl, by simp [a5b]⟩
 obtain ⟨st', e2, m2⟩ := c2
 rw [e2, a8, hd, a8]
 dsimp only
 cases d == (0 : Int)
 ·cases d == (1 : Int)
  ·exact ⟨_, _, rfl, ⟨by omega, by omega⟩, m2, by simp [b0z]⟩
  ·exact ⟨_, _, rfl, ⟨by omega, by omega⟩, m2, by simp [b0z]⟩
 ·exact ⟨_, _, rfl, ⟨by omega, by omega⟩, m2, by simp [b0z]⟩
theorem b1H {B : Nat} {c : q9} (h1 : c.Stops.length ≤ B ∧ ∀ s ∈ c.Stops, s.length ≤ B) (h2 : c.Syns.length ≤ B ∧ ∀ r ∈ c.Syns, r.To.length ≤ B ∧ r.From.length ≤ B ∧ ∀ w ∈ r.From, w.length ≤ B) : a2i B c := by
 constructor
 ·exact h1
 ·exact ⟨h2.1, fun r hr => ⟨(h2.2 r hr).2.1, (h2.2 r hr).1, (h2.2 r hr).2.2⟩⟩
theorem b4X : ∀ a ∈ a5b, a.length ≤ 90 ∧ ∀ s ∈ a, s.length ≤ 100 := by decide
theorem b6e : ∀ a ∈ b0z, a.length ≤ 90 ∧ ∀ r ∈ a, r.To.length ≤ 100 ∧ r.From.length ≤ 100 ∧ ∀ w ∈ r.From, w.length ≤ 100 := by decide
theorem a10.fit {c : q9} (h : a10 c) : a2i 100 c := by
 obtain ⟨a1, a2⟩ := b4X _ h.1
 obtain ⟨b1, b2⟩ := b6e _ h.2
 exact b1H ⟨by omega, a2⟩ ⟨by omega, b2⟩
theorem b1C {c : q9} {docs : List s7} (hd : X0 docs) : (a0i c docs).Entries.length ≤ 1000000000 := by
 have h1 := b0o hd
 have h2 := a1s (g := fun n => (G4 c docs n).map (H2 c docs n)) (m := 100000) (S5 docs) fun n _ => by rw [List.length_map]; exact a8Y c hd n
 unfold a0i
 show ((S5 docs).flatMap fun n => (G4 c docs n).map (H2 c docs n)).length ≤ _
 omega
theorem b8y (F : Nat) (r : u5) (hr : b34 r 1000) (hF : 200000 < F) : ∃ c docs p, a1f F r = some (c, a0i c docs, ⟨r.b_, p⟩) ∧ a9N r p 2003 ∧ a10 c ∧ X0 docs := by
 obtain ⟨h1, h2, h3⟩ := hr
 unfold a1f
 obtain ⟨c, p, hc, ⟨q1, q2⟩, hd⟩ := b6x F r ⟨h1, h2, by omega⟩
 obtain ⟨docs, p', hdc, ⟨q3, q4⟩, hdr⟩ := b6A F ⟨r.b_, p⟩ ⟨h1, by simp only; omega, by simp only; omega⟩ (by omega)
 simp only at q3 q4
 rw [hc, a8]
 dsimp only
 rw [hdc, a8]
 dsimp only
 rw [b2r F c docs hd.good (hdr.fit (by omega)) hF]
 exact ⟨c, docs, p', rfl, ⟨by omega, by omega⟩, hd, hdr.fit (by omega)⟩
theorem b35 (F : Nat) (r : u5) (hr : b34 r 1000) (hF : 200000 < F) : ∃ c s p, V5 F r = some (c, s, ⟨r.b_, p⟩) ∧ a9N r p 2005 ∧ a10 c ∧ X0 s.Docs ∧ s.Entries.length ≤ 1000000001 := by
 obtain ⟨h1, h2, h3⟩ := hr
 unfold V5
 obtain ⟨c, docs, p, hs, ⟨q1, q2⟩, hd, hf⟩ := b8y F r ⟨h1, h2, h3⟩ hF
 have hel := b1C (c := c) hf
 rw [hs, a8]
 dsimp only
 by_cases h0 : (0 : Int) < ((a0i c docs).Entries.length : Int)
 ·obtain ⟨i, hi, i0, i1⟩ := J3 F ⟨r.b_, p⟩ ((a0i c docs).Entries.length : Int) ⟨h1, by simp only; omega, by simp only; omega⟩
  obtain ⟨x, hx, _, _⟩ := J3 F ⟨r.b_, p + 1⟩ 16 ⟨h1, by simp only; omega, by simp only; omega⟩
  obtain ⟨e, he⟩ := a8B i0 (i1 (by omega))
  rw [c7 h0, i4, hi, a8]
  dsimp only
  rw [hx, a8]
  dsimp only
  cases x == (0 : Int)
  ·cases x == (1 : Int)
   ·cases x == (2 : Int)
    ·exact ⟨_, _, _, rfl, ⟨by omega, by omega⟩, hd, hf, by omega⟩
    ·have hne : 1 ≤ docs.length := by
      rcases Nat.eq_zero_or_pos docs.length with h | h
      ·rw [List.eq_nil_of_length_eq_zero h] at h0
       simp [a0i, S5] at h0
      ·exact h
     rw [g8, g8, i4, show (1 : Int) = ((1 : Nat) : Int) from rfl, show (a0i c docs).Docs = docs from rfl, a5p hne, a8]
     exact ⟨_, _, _, rfl, ⟨by omega, by omega⟩, hd, ⟨by have := hf.few; simp only [List.length_drop]; omega, fun d hm => hf.doc d (List.mem_of_mem_drop hm)⟩, by simp only; omega⟩
   ·rw [g8, i4, he, a8, G7 (by simp only [k5]; omega), a8]
    exact ⟨_, _, _, rfl, ⟨by omega, by omega⟩, hd, hf, by simp only [k7, k5]; omega⟩
  ·rw [i4, he, a8]
   exact ⟨_, _, _, rfl, ⟨by omega, by omega⟩, hd, hf, by simp only [List.length_set]; omega⟩
 ·rw [c6 h0, g8]
  exact ⟨_, _, _, rfl, ⟨by omega, by omega⟩, hd, hf, by omega⟩
end Go.Fk
set_option linter.unusedVariables false
namespace Go.Fk
open Go
theorem b5G (F : Nat) : ∃ l : List k6, S8 F = some l ∧ l ≠ [] ∧ ∀ w ∈ l, C4 w = true := by
 refine ⟨_, rfl, by simp, ?_⟩
 decide
def a8z : List k6 := [[98, 111, 100, 121], [98, 111, 100, 121], [116, 105, 116, 108, 101]]
theorem b1G : ∀ f ∈ a8z, C4 f = true := by decide
theorem b0k (F : Nat) (r : u5) (hr : b34 r 900000) : ∃ q p, a0D F r = some (q, ⟨r.b_, p⟩) ∧ a9N r p 5 ∧ a3i q := by
 obtain ⟨h1, h2, h3⟩ := hr
 unfold a0D
 obtain ⟨f, hf, ef⟩ := a7G F r a8z ⟨h1, h2, by omega⟩ (by simp [a8z])
 have hfw := b1G f hf
 unfold a8z at ef
 rw [ef, a8]
 dsimp only
 obtain ⟨x, hx, x0, x1⟩ := J3 F ⟨r.b_, r.p_ + 1⟩ 9 ⟨h1, by simp only; omega, by simp only; omega⟩
 rw [hx, a8]
 dsimp only
 obtain ⟨kn, hkn, hne, hkw⟩ := b5G F
 cases x == (0 : Int)
 ·rw [g8]
  cases x == (1 : Int)
  ·rw [g8]
   cases x == (2 : Int)
   ·rw [g8]
    cases x == (3 : Int)
    ·rw [g8]
     cases x == (4 : Int)
     ·rw [g8, hkn, a8]
      obtain ⟨w, hw, ew⟩ := a7G F ⟨r.b_, r.p_ + 1 + 1⟩ kn ⟨h1, by simp only; omega, by simp only; omega⟩ hne
      rw [ew, a8]
      exact ⟨_, _, rfl, ⟨by simp only; omega, by simp only; omega⟩, .term hfw (hkw w hw)⟩
     ·rw [i4]
      obtain ⟨a, ha, a0, a1⟩ := J3 F ⟨r.b_, r.p_ + 1 + 1⟩ 4 ⟨h1, by simp only; omega, by simp only; omega⟩
      rw [ha, a8]
      dsimp only
      obtain ⟨b, hb, b0, b1⟩ := J3 F ⟨r.b_, r.p_ + 1 + 1 + 1⟩ 3 ⟨h1, by simp only; omega, by simp only; omega⟩
      have a1 := a1 (by omega)
      have b1 := b1 (by omega)
      rw [hb, a8, y8 ⟨by omega, by omega⟩]
      exact ⟨_, _, rfl, ⟨by simp only; omega, by simp only; omega⟩, .range (by decide) a0 (by omega) (by omega) (by omega)⟩
    ·rw [i4]
     obtain ⟨w, hw, ew⟩ := a7G F ⟨r.b_, r.p_ + 1 + 1⟩ [[99, 42], [63, 111, 63], [42, 110], [42]] ⟨h1, by simp only; omega, by simp only; omega⟩ (by simp)
     rw [ew, a8]
     exact ⟨_, _, rfl, ⟨by simp only; omega, by simp only; omega⟩, .glob hfw ((by decide : ∀ w ∈ ([[99, 42], [63, 111, 63], [42, 110], [42]] : List k6), a8Z w = true) w hw) ((by decide : ∀ w ∈ ([[99, 42], [63, 111, 63], [42, 110], [42]] : List k6), C4 w = false) w hw)⟩
   ·rw [i4]
    obtain ⟨w, hw, ew⟩ := a7G F ⟨r.b_, r.p_ + 1 + 1⟩ [[99, 111, 116], [100, 117, 103], [114, 110], [102, 111, 103]] ⟨h1, by simp only; omega, by simp only; omega⟩ (by simp)
    rw [ew, a8]
    dsimp only
    obtain ⟨a, ha, a0, a1⟩ := J3 F ⟨r.b_, r.p_ + 1 + 1 + 1⟩ 2 ⟨h1, by simp only; omega, by simp only; omega⟩
    have a1 := a1 (by omega)
    rw [ha, a8, y8 ⟨by omega, by omega⟩]
    exact ⟨_, _, rfl, ⟨by simp only; omega, by simp only; omega⟩, .near hfw ((by decide : ∀ w ∈ ([[99, 111, 116], [100, 117, 103], [114, 110], [102, 111, 103]] : List k6), C4 w = true) w hw) (by omega) (by omega)⟩
  ·rw [i4, hkn, a8]
   obtain ⟨w, hw, ew⟩ := a7G F ⟨r.b_, r.p_ + 1 + 1⟩ kn ⟨h1, by simp only; omega, by simp only; omega⟩ hne
   rw [ew, a8, a8]
   dsimp only
   obtain ⟨v, hv, ev⟩ := a7G F ⟨r.b_, r.p_ + 1 + 1 + 1⟩ kn ⟨h1, by simp only; omega, by simp only; omega⟩ hne
   rw [ev, a8]
   dsimp only
   obtain ⟨a, ha, a0, a1⟩ := J3 F ⟨r.b_, r.p_ + 1 + 1 + 1 + 1⟩ 3 ⟨h1, by simp only; omega, by simp only; omega⟩
   have a1 := a1 (by omega)
   rw [ha, a8]
   exact ⟨_, _, rfl, ⟨by simp only; omega, by simp only; omega⟩, .phrase hfw (by simp) (by simp) (fun z hz => by
    simp only [List.mem_cons, List.not_mem_nil, or_false] at hz
    rcases hz with rfl | rfl
    ·exact hkw _ hw
    ·exact hkw _ hv) a0 (by omega)⟩
 ·exact ⟨_, _, rfl, ⟨by omega, by omega⟩, .all⟩
def R6 : Nat → Nat
 | 0 => 5
 | d + 1 => 5 + 3 * R6 d
theorem b4a {d : Nat} (h : d ≤ 3) : R6 d ≤ 200 := by
 have : d = 0 ∨ d = 1 ∨ d = 2 ∨ d = 3 := by omega
 rcases this with rfl | rfl | rfl | rfl <;> decide
theorem a9p : ∀ (d : Nat) (F : Nat) (r : u5), d ≤ 2 → d + 10 < F → r.b_.length ≤ 2000 → 0 ≤ r.p_ → r.p_ + 3 * R6 d ≤ 100000 → ∃ q p, C1 F r ((d + 1 : Nat) : Int) = some (q, ⟨r.b_, p⟩) ∧ a9N r p (R6 d) ∧ H5 (d + 1) q
 | d, F, r, hd, hF, h1, h2, h3 => by
  obtain ⟨F, rfl⟩ : ∃ G, F = G + 1 := ⟨F - 1, by omega⟩
  have hpos : 5 ≤ R6 d := by cases d <;> simp [R6]
  rw [C1]
  dsimp only
  cases d with
  | zero =>
   obtain ⟨q, p, hq, ⟨q0, q1⟩, hl⟩ := b0k F r ⟨h1, h2, by omega⟩
   rw [c7 (by omega), i4, a8]
   dsimp only
   rw [i4, hq]
   exact ⟨_, _, rfl, ⟨q0, q1⟩, .leaf hl⟩
  | succ d =>
   have hdr : R6 (d + 1) = 5 + 3 * R6 d := rfl
   have hpd : 5 ≤ R6 d := by cases d <;> simp [R6]
   obtain ⟨x, hx, x0, x1⟩ := J3 F r 3 ⟨h1, h2, by omega⟩
   rw [c6 (by omega), g8, hx, a8, a8]
   dsimp only
   cases x == (0 : Int)
   case true =>
    obtain ⟨q, p, hq, ⟨q0, q1⟩, hl⟩ := b0k F ⟨r.b_, r.p_ + 1⟩ ⟨h1, by simp only; omega, by simp only; omega⟩
    simp only at q0 q1
    rw [i4, hq]
    exact ⟨_, _, rfl, ⟨by omega, by omega⟩, .leaf hl⟩
   case false =>
    rw [g8]
    have w1 : u6 (((d + 1 + 1 : Nat) : Int) - 1) = ((d + 1 : Nat) : Int) := by rw [W6 (by omega) (by omega)]; rfl
    obtain ⟨y, hy, y0, y1⟩ := J3 F ⟨r.b_, r.p_ + 1⟩ 6 ⟨h1, by simp only; omega, by simp only; omega⟩
    have sub : ∀ p : Int, r.p_ ≤ p → p ≤ r.p_ + 5 + 3 * R6 d → ∃ q p', C1 F ⟨r.b_, p⟩ (u6 (((d + 1 + 1 : Nat) : Int) - 1)) = some (q, ⟨r.b_, p'⟩) ∧ p ≤ p' ∧ p' ≤ p + R6 d ∧ H5 (d + 1) q := fun p p0 p1 => by
     rw [w1]
     obtain ⟨q, p', e, ⟨e1, e2⟩, g⟩ := a9p d F ⟨r.b_, p⟩ (by omega) (by omega) h1 (by simp only; omega) (by simp only; omega)
     exact ⟨q, p', e, e1, e2, g⟩
    rw [hy, a8]
    dsimp only
    cases y == (0 : Int)
    ·rw [g8]
     cases y == (1 : Int)
     ·rw [g8]
      have two : ∃ qa qb p, (Option.bind (C1 F ⟨r.b_, r.p_ + 1 + 1⟩ (u6 (((d + 1 + 1 : Nat) : Int) - 1))) fun r239 => (Option.bind (C1 F r239.2 (u6 (((d + 1 + 1 : Nat) : Int) - 1))) fun r264 => (some (.inr ((r5.mk (7 : Int) ([] : k6) ([] : List k6) (0 : Int) (0 : Int) ([r239.1, r264.1] : List r5)), r264.2)) : Option ((u5 × r5) ⊕ (r5 × u5))))) = some (.inr (⟨7, [], [], 0, 0, [qa, qb]⟩, ⟨r.b_, p⟩)) ∧ r.p_ ≤ p ∧ p ≤ r.p_ + 2 + 2 * R6 d ∧ H5 (d + 1) qa ∧ H5 (d + 1) qb := by
       obtain ⟨qa, pa, ea, a1, a2, ga⟩ := sub (r.p_ + 1 + 1) (by omega) (by omega)
       obtain ⟨qb, pb, eb, b1, b2, gb⟩ := sub pa (by omega) (by omega)
       refine ⟨qa, qb, pb, ?_, by omega, by omega, ga, gb⟩
       rw [ea, a8]
       dsimp only
       rw [eb]; rfl
      obtain ⟨qa, qb, p, e2, p1, p2, ga, gb⟩ := two
      have good7 : H5 (d + 1 + 1) ⟨7, [], [], 0, 0, [qa, qb]⟩ := .and (by simp) (by simp) fun k hk => by
       simp only [List.mem_cons, List.not_mem_nil, or_false] at hk
       rcases hk with rfl | rfl
       ·exact ga
       ·exact gb
      have orCase : ∃ q p, (Option.bind (a0p F ⟨r.b_, r.p_ + 1 + 1⟩ (2 : Int)) fun r307 => (Option.bind ((Option.bind (r4 (σ := Int × u5 × r5) (τ := u5 × r5) (fun (s346 : Int × u5 × r5) => (cond (decide ((0 : Int) < s346.1)) (Option.bind (C1 F s346.2.1 (u6 (((d + 1 + 1 : Nat) : Int) - (1 : Int)))) fun r385 => (Option.bind (L8 88 s346.2.2.Kids ([r385.1] : List r5)) fun x417 => (some (.inl ((u6 (s346.1 - (1 : Int))), r385.2, (r5.mk s346.2.2.Kind s346.2.2.Field s346.2.2.Words s346.2.2.From s346.2.2.To x417)))))) (some (.inr (s346.2.1, s346.2.2))))) F ((u6 ((2 : Int) + r307.1)), r307.2, (r5.mk (8 : Int) ([] : k6) ([] : List k6) (0 : Int) (0 : Int) ([] : List r5)))) fun r347 => (some (r347.1, r347.2))) : Option (u5 × r5)) fun o322 => (some (o322.2, o322.1)))) = some (q, ⟨r.b_, p⟩) ∧ r.p_ ≤ p ∧ p ≤ r.p_ + 3 + 3 * R6 d ∧ H5 (d + 1 + 1) q := by
       obtain ⟨z, hz, z0, z1⟩ := J3 F ⟨r.b_, r.p_ + 1 + 1⟩ 2 ⟨h1, by simp only; omega, by simp only; omega⟩
       have z1 := z1 (by omega)
       rw [hz, a8]
       dsimp only
       obtain ⟨n, hn⟩ : ∃ n : Nat, z = (n : Int) := ⟨z.toNat, by omega⟩
       subst hn
       rw [y8 (n := (2 : Int) + (n : Int)) ⟨by omega, by omega⟩]
       obtain ⟨t, ht, ks, p, rfl, k1, k2, k3, k4⟩ := H4 (σ := Int × u5 × r5) (τ := u5 × r5) (f := (fun (s346 : Int × u5 × r5) => (cond (decide ((0 : Int) < s346.1)) (Option.bind (C1 F s346.2.1 (u6 (((d + 1 + 1 : Nat) : Int) - (1 : Int)))) fun r385 => (Option.bind (L8 88 s346.2.2.Kids ([r385.1] : List r5)) fun x417 => (some (.inl ((u6 (s346.1 - (1 : Int))), r385.2, (r5.mk s346.2.2.Kind s346.2.2.Field s346.2.2.Words s346.2.2.From s346.2.2.To x417)))))) (some (.inr (s346.2.1, s346.2.2))))))
        (Post := fun t => ∃ (ks : List r5) (p : Int), t = (⟨r.b_, p⟩, ⟨8, [], [], 0, 0, ks⟩) ∧ ks.length = n + 2 ∧ r.p_ ≤ p ∧ p ≤ r.p_ + 3 + 3 * R6 d ∧ ∀ k ∈ ks, H5 (d + 1) k)
        (fun i st => ∃ (ks : List r5) (p : Int), st = (((n + 2 : Nat) : Int) - (i : Int), ⟨r.b_, p⟩, ⟨8, [], [], 0, 0, ks⟩) ∧ ks.length = i ∧ r.p_ + 3 ≤ p ∧ p ≤ r.p_ + 3 + (i : Int) * (R6 d : Int) ∧ ∀ k ∈ ks, H5 (d + 1) k) (n + 2)
        (fun i st hi hI => by
         obtain ⟨ks, p, rfl, k1, k2, k3, k4⟩ := hI
         left
         have hid : (i : Int) * (R6 d : Int) ≤ 2 * (R6 d : Int) := Int.mul_le_mul_of_nonneg_right (by omega) (by omega)
         obtain ⟨q, p', e, e1, e2, g⟩ := sub p (by omega) (by omega)
         dsimp only
         rw [c7 (by omega), i4, e, a8]
         dsimp only
         rw [G7 (by simp only [k5]; omega), a8]
         refine ⟨_, rfl, ks ++ [q], p', ?_, by simp [k1], by omega, ?_, fun k hk => ?_⟩
         ·rw [y8 ⟨by omega, by omega⟩]
          congr 1
          omega
         ·rw [show ((i + 1 : Nat) : Int) * (R6 d : Int) = (i : Int) * (R6 d : Int) + R6 d by rw [Int.natCast_add, Int.add_mul]; simp]
          omega
         ·rcases List.mem_append.1 hk with hk | hk
          ·exact k4 k hk
          ·rw [List.mem_singleton] at hk; subst hk; exact g)
        (fun st hI => by
         obtain ⟨ks, p, rfl, k1, k2, k3, k4⟩ := hI
         dsimp only
         rw [c6 (by omega), g8]
         have hid : ((n + 2 : Nat) : Int) * (R6 d : Int) ≤ 3 * (R6 d : Int) := Int.mul_le_mul_of_nonneg_right (by omega) (by omega)
         exact ⟨_, rfl, ks, p, rfl, k1, by omega, by omega, k4⟩) (n + 2) 0 ((2 : Int) + (n : Int), ⟨r.b_, r.p_ + 1 + 1 + 1⟩, ⟨8, [], [], 0, 0, []⟩) F (by omega) (by omega)
        ⟨[], r.p_ + 1 + 1 + 1, by congr 1; omega, rfl, by omega, by omega, fun k hk => by cases hk⟩
       rw [ht, a8, a8]
       exact ⟨_, _, rfl, k2, k3, .or (by omega) (by omega) k4⟩
      obtain ⟨qo, po, eo, o1, o2, go⟩ := orCase
      cases y == (2 : Int)
      ·rw [g8, a8]
       cases y == (3 : Int)
       ·rw [g8, a8]
        dsimp only [Sum.elim_inl]
        rw [eo]
        exact ⟨_, _, rfl, ⟨o1, by omega⟩, go⟩
       ·rw [i4, e2, a8]
        exact ⟨_, _, rfl, ⟨p1, by omega⟩, good7⟩
      ·rw [i4, a8, i4, e2, a8]
       exact ⟨_, _, rfl, ⟨p1, by omega⟩, good7⟩
     ·rw [i4]
      obtain ⟨z, hz, z0, z1⟩ := J3 F ⟨r.b_, r.p_ + 1 + 1⟩ 4 ⟨h1, by simp only; omega, by simp only; omega⟩
      have z1 := z1 (by omega)
      obtain ⟨qa, pa, ea, a1, a2, ga⟩ := sub (r.p_ + 1 + 1 + 1) (by omega) (by omega)
      rw [hz, a8]
      dsimp only
      rw [ea, a8, y8 (n := (2 : Int) + z) ⟨by omega, by omega⟩, a8]
      exact ⟨_, _, rfl, ⟨by omega, by omega⟩, .times (by omega) (by omega) ga⟩
    ·rw [i4]
     obtain ⟨qa, pa, ea, a1, a2, ga⟩ := sub (r.p_ + 1 + 1) (by omega) (by omega)
     obtain ⟨qb, pb, eb, b1, b2, gb⟩ := sub pa (by omega) (by omega)
     rw [ea, a8]
     dsimp only
     rw [eb, a8, a8]
     exact ⟨_, _, rfl, ⟨by omega, by omega⟩, .less ga gb⟩
end Go.Fk
set_option linter.unusedVariables false
namespace Go.Fk
open Go
end Go.Fk
