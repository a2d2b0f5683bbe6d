import Derived.Test.YtmkhlppjphodfaaGreatDoorLawRdAll
import Derived.Test.YtmkhlppjphodfaaGreatDoorLawDocs
import Derived.Test.YtmkhlppjphodfaaGreatDoorLawSegKL
import Derived.Test.YtmkhlppjphodfaaGreatDoorLawQs
/-
  The draws of documents go through, whatever the code. Of no program.
-/
namespace Go.Fk
open Go
def a9N (r : u5) (p : Int) (c : Nat) : Prop := r.p_ ≤ p ∧ p ≤ r.p_ + c
def b34 (r : u5) (m : Nat) : Prop := r.b_.length ≤ 2000 ∧ 0 ≤ r.p_ ∧ r.p_ ≤ m
structure N8 (f n : Nat) (d : s7) : Prop where
 fields : d.Fields.length ≤ f
 nums : d.Nums.length ≤ n
 field : ∀ f ∈ d.Fields, f.Name.length ≤ 1000 ∧ f.Text.length ≤ 1000
 num : ∀ a ∈ d.Nums, a.Name.length ≤ 1000
theorem N8.fit {f n : Nat} {d : s7} (h : N8 f n d) (hf : f ≤ 100) (hn : n ≤ 100) : a4v d := ⟨by have := h.fields; omega, by have := h.nums; omega, h.field, h.num⟩
theorem N8.putField {f n : Nat} {i : Int} {a : List I5} {b : List a2r} (h : N8 f n ⟨i, a, b⟩) (x : I5) (hx : x.Name.length ≤ 1000 ∧ x.Text.length ≤ 1000) : N8 (f + 1) n ⟨i, a ++ [x], b⟩ := by
 refine ⟨by have := h.fields; simp only [k7, k5] at this ⊢; omega, h.nums, fun y hy => ?_, h.num⟩
 rcases List.mem_append.1 hy with hy | hy
 ·exact h.field y hy
 ·rw [List.mem_singleton.1 hy]; exact hx
theorem N8.putNum {f n : Nat} {i : Int} {a : List I5} {b : List a2r} (h : N8 f n ⟨i, a, b⟩) (x : a2r) (hx : x.Name.length ≤ 1000) : N8 f (n + 1) ⟨i, a, b ++ [x]⟩ := by
 refine ⟨h.fields, by have := h.nums; simp only [k7, k5] at this ⊢; omega, h.field, fun y hy => ?_⟩
 rcases List.mem_append.1 hy with hy | hy
 ·exact h.num y hy
 ·rw [List.mem_singleton.1 hy]; exact hx
theorem N8.more {f n f' n' : Nat} {d : s7} (h : N8 f n d) (hf : f ≤ f') (hn : n ≤ n') : N8 f' n' d := ⟨by have := h.fields; omega, by have := h.nums; omega, h.field, h.num⟩
theorem b74 (F : Nat) (r : u5) (id : Int) (hr : b34 r 900000) (hF : 20 ≤ F) : ∃ d p, a1d F r id = some (d, ⟨r.b_, p⟩) ∧ a9N r p 300 ∧ N8 2 2 d := by
 obtain ⟨h1, h2, h3⟩ := hr
 have hm : 10000 ≤ maxLen := by decide
 unfold a1d
 have e0 : N8 0 0 ⟨id, [], []⟩ := ⟨by simp, by simp, by simp, by simp⟩
 obtain ⟨a1, ha1, _, _⟩ := J3 F r 6 ⟨h1, by omega, by omega⟩
 rw [ha1, a8]
 dsimp only
 -- the first field
 have s1 : ∃ d p, (cond (decide ((0 : Int) < a1)) (Option.bind (O2 F ⟨r.b_, r.p_ + 1⟩) fun r58 => (Option.bind (L8 32 ([] : List I5) ([(I5.mk ([98, 111, 100, 121] : k6) r58.1)] : List I5)) fun x79 => (some (r58.2, (s7.mk id x79 ([] : List a2r)))))) (some ((⟨r.b_, r.p_ + 1⟩ : u5), (s7.mk id ([] : List I5) ([] : List a2r)))) : Option (u5 × s7)) = some (⟨r.b_, p⟩, d) ∧ a9N r p 101 ∧ N8 1 0 d := by
  cases decide ((0 : Int) < a1)
  ·exact ⟨_, _, rfl, ⟨by omega, by omega⟩, e0.more (by omega) (by omega)⟩
  ·obtain ⟨s, p, hs, q0, q1, ql⟩ := b3W F ⟨r.b_, r.p_ + 1⟩ ⟨h1, by simp only; omega, by simp only; omega⟩ hF
   simp only at q0 q1
   rw [i4, hs, a8, G7 (by simp)]
   exact ⟨_, _, rfl, ⟨by omega, by omega⟩, e0.putField _ ⟨by simp, by simp only; omega⟩⟩
 obtain ⟨d1, p1, hs1, ⟨q1, q2⟩, hd1⟩ := s1
 rw [hs1, a8]
 dsimp only
 obtain ⟨a2, ha2, _, _⟩ := J3 F ⟨r.b_, p1⟩ 3 ⟨h1, by simp only; omega, by simp only; omega⟩
 rw [ha2, a8]
 dsimp only
 have s2 : ∃ d p, (cond (a2 == (0 : Int)) (Option.bind (O2 F ⟨r.b_, p1 + 1⟩) fun r144 => (Option.bind (L8 32 d1.Fields ([(I5.mk ([116, 105, 116, 108, 101] : k6) r144.1)] : List I5)) fun x165 => (some (r144.2, (s7.mk d1.Id x165 d1.Nums))))) (some ((⟨r.b_, p1 + 1⟩ : u5), d1)) : Option (u5 × s7)) = some (⟨r.b_, p⟩, d) ∧ a9N r p 202 ∧ N8 2 0 d := by
  cases a2 == (0 : Int)
  ·exact ⟨_, _, rfl, ⟨by omega, by omega⟩, hd1.more (by omega) (by omega)⟩
  ·obtain ⟨s, p, hs, w0, w1, wl⟩ := b3W F ⟨r.b_, p1 + 1⟩ ⟨h1, by simp only; omega, by simp only; omega⟩ hF
   simp only at w0 w1
   have := hd1.fields
   rw [i4, hs, a8, G7 (by simp only [k5]; omega)]
   exact ⟨_, _, rfl, ⟨by omega, by omega⟩, hd1.putField _ ⟨by simp, by simp only; omega⟩⟩
 obtain ⟨d2, p2, hs2, ⟨q3, q4⟩, hd2⟩ := s2
 rw [hs2, a8]
 dsimp only
 obtain ⟨a3, ha3, _, _⟩ := J3 F ⟨r.b_, p2⟩ 3 ⟨h1, by simp only; omega, by simp only; omega⟩
 rw [ha3, a8]
 dsimp only
 have s3 : ∃ d p, (cond (decide ((0 : Int) < a3)) (Option.bind (a0p F ⟨r.b_, p2 + 1⟩ (4 : Int)) fun r224 => (Option.bind (L8 24 d2.Nums ([(a2r.mk ([114, 97, 116, 101] : k6) r224.1)] : List a2r)) fun x245 => (some (r224.2, (s7.mk d2.Id d2.Fields x245))))) (some ((⟨r.b_, p2 + 1⟩ : u5), d2)) : Option (u5 × s7)) = some (⟨r.b_, p⟩, d) ∧ a9N r p 204 ∧ N8 2 1 d := by
  cases decide ((0 : Int) < a3)
  ·exact ⟨_, _, rfl, ⟨by omega, by omega⟩, hd2.more (by omega) (by omega)⟩
  ·obtain ⟨x, hx, _, _⟩ := J3 F ⟨r.b_, p2 + 1⟩ 4 ⟨h1, by simp only; omega, by simp only; omega⟩
   have := hd2.nums
   rw [i4, hx, a8, G7 (by simp only [k5]; omega)]
   exact ⟨_, p2 + 1 + 1, rfl, ⟨by omega, by omega⟩, hd2.putNum _ (by simp)⟩
 obtain ⟨d3, p3, hs3, ⟨q5, q6⟩, hd3⟩ := s3
 rw [hs3, a8]
 dsimp only
 obtain ⟨a4, ha4, _, _⟩ := J3 F ⟨r.b_, p3⟩ 3 ⟨h1, by simp only; omega, by simp only; omega⟩
 rw [ha4, a8]
 dsimp only
 cases a4 == (0 : Int)
 ·exact ⟨_, _, rfl, ⟨by omega, by omega⟩, hd3.more (by omega) (by omega)⟩
 ·obtain ⟨x, hx, _, _⟩ := J3 F ⟨r.b_, p3 + 1⟩ 30 ⟨h1, by simp only; omega, by simp only; omega⟩
  have := hd3.nums
  rw [i4, hx, a8, G7 (by simp only [k5]; omega)]
  exact ⟨_, p3 + 1 + 1, rfl, ⟨by omega, by omega⟩, hd3.putNum _ (by simp)⟩
def a3F (k : Nat) (ds : List s7) : Prop := ds.length ≤ k ∧ ∀ d ∈ ds, N8 3 3 d
theorem a3F.fit {k : Nat} {ds : List s7} (h : a3F k ds) (hk : k ≤ 100) : X0 ds := ⟨by have := h.1; omega, fun d hd => (h.2 d hd).fit (by omega) (by omega)⟩
theorem b6A (F : Nat) (r : u5) (hr : b34 r 100000) (hF : 20 ≤ F) : ∃ ds p, a0C F r = some (ds, ⟨r.b_, p⟩) ∧ a9N r p 2000 ∧ a3F 5 ds := by
 obtain ⟨h1, h2, h3⟩ := hr
 unfold a0C
 obtain ⟨n, hn, n0, n1⟩ := J3 F r 6 ⟨h1, h2, by omega⟩
 have n1 := n1 (by decide)
 rw [hn, a8]
 dsimp only
 generalize hf : (fun (s44 : (List s7) × Int × Int × u5) => _ : (List s7) × Int × Int × u5 → Option (((List s7) × Int × Int × u5) ⊕ ((List s7) × u5))) = f
 have key : ∀ (k : Nat) (ds : List s7) (id p : Int) (F : Nat), k + 1 ≤ F → 0 ≤ p → p + 301 * k ≤ 800000 → a3F (5 - k) ds → k ≤ 5 → ∃ ds' p', r4 f F (ds, id, (k : Int), ⟨r.b_, p⟩) = some (ds', ⟨r.b_, p'⟩) ∧ p ≤ p' ∧ p' ≤ p + 301 * k ∧ a3F 5 ds' := by
  intro k
  induction k with
  | zero =>
   intro ds id p F hF _ _ hd _
   obtain ⟨F, rfl⟩ : ∃ G, F = G + 1 := ⟨F - 1, by omega⟩
   rw [r4]
   subst hf
   exact ⟨ds, p, rfl, by omega, by omega, hd⟩
  | succ k ih =>
   intro ds id p F' hF' p0 p1 hs hk
   obtain ⟨F', rfl⟩ : ∃ G, F' = G + 1 := ⟨F' - 1, by omega⟩
   obtain ⟨a, ha, _, _⟩ := J3 F ⟨r.b_, p⟩ 3 ⟨h1, p0, by simp only; omega⟩
   obtain ⟨d, q, hdq, ⟨q0, q1⟩, hdd⟩ := b74 F ⟨r.b_, p + 1⟩ (u6 (u6 (id + 1) + a)) ⟨h1, by simp only; omega, by simp only; omega⟩ hF
   simp only at q0 q1
   have hs1 := hs.1
   have hstep : f (ds, id, ((k + 1 : Nat) : Int), ⟨r.b_, p⟩) = some (.inl (ds ++ [d], u6 (u6 (id + 1) + a), (k : Int), ⟨r.b_, q⟩)) := by
    rw [← hf]
    dsimp only
    have c3 : u6 (((k + 1 : Nat) : Int) - 1) = (k : Int) := by rw [y8 ⟨by omega, by omega⟩]; omega
    rw [c7 (by omega), i4, ha, a8]
    dsimp only
    rw [hdq, a8, G7 (by simp only [k5]; omega), a8, c3]
   rw [r4, hstep]
   simp only [a8, Sum.elim_inl]
   obtain ⟨ws', p', hw, a1, a2, a3⟩ := ih (ds ++ [d]) (u6 (u6 (id + 1) + a)) q F' (by omega) (by omega) (by omega) ⟨by simp only [k7, k5]; omega, fun x hx => by
    rcases List.mem_append.1 hx with h | h
    ·exact hs.2 x h
    ·rw [List.mem_singleton.1 h]; exact hdd.more (by omega) (by omega)⟩ (by omega)
   exact ⟨ws', p', hw, by omega, by omega, a3⟩
 obtain ⟨k, rfl⟩ := Int.eq_ofNat_of_zero_le n0
 obtain ⟨s', p', hw, a1, a2, a3⟩ := key k [] 0 (r.p_ + 1) F (by omega) (by omega) (by omega) ⟨by simp, by simp⟩ (by omega)
 rw [hw]
 exact ⟨s', p', rfl, ⟨by omega, by omega⟩, a3⟩
end Go.Fk
set_option linter.unusedVariables false
namespace Go.Fk
open Go
def a5b : List (List k6) := [[], [[116, 104, 101]], [[100, 111, 103], [116, 104, 101]]]
def b0z : List (List Q0) := [[], [⟨[[110, 101, 119], [121, 111, 114, 107]], [110, 121]⟩], [⟨[[98, 105, 103]], [108, 97, 114, 103]⟩, ⟨[[98, 105, 103], [114, 101, 100], [102, 111, 120]], [102, 111, 120]⟩, ⟨[[110, 101, 119], [121, 111, 114, 107]], [110, 121]⟩]]
def a10 (c : q9) : Prop := c.Stops ∈ a5b ∧ c.Syns ∈ b0z
theorem b2K : (a5b.all fun a => b0z.all fun b => Q9 ⟨a, b⟩) = true := by decide +kernel
theorem a10.good {c : q9} (h : a10 c) : Q9 c = true := by
 have := List.all_eq_true.1 (List.all_eq_true.1 b2K c.Stops h.1) c.Syns h.2
 exact this
theorem b6x (F : Nat) (r : u5) (hr : b34 r 900000) : ∃ c p, a0B F r = some (c, ⟨r.b_, p⟩) ∧ a9N r p 3 ∧ a10 c := by
 obtain ⟨h1, h2, h3⟩ := hr
 unfold a0B
 obtain ⟨a, ha, _, _⟩ := J3 F r 3 ⟨h1, h2, by omega⟩
 obtain ⟨b, hb, _, _⟩ := J3 F ⟨r.b_, r.p_ + 1⟩ 4 ⟨h1, by simp only; omega, by simp only; omega⟩
 obtain ⟨d, hd, _, _⟩ := J3 F ⟨r.b_, r.p_ + 1 + 1⟩ 4 ⟨h1, by simp only; omega, by simp only; omega⟩
 rw [ha, a8]
 have c1 : ∃ st, (cond (decide ((0 : Int) < a)) (some (q9.mk ([([116, 104, 101] : k6)] : List k6) ([] : List Q0))) (some (q9.mk ([] : List k6) ([] : List Q0)))) = some (q9.mk st []) ∧ st ∈ a5b := by
  cases decide ((0 : Int) < a)
  ·exact ⟨_, rfl, by simp [a5b]⟩
  ·exact ⟨_, rfl, by simp [a5b]⟩
 obtain ⟨st, e1, m1⟩ := c1
 have e1' : (cond (decide ((0 : Int) < (a, u5.mk r.b_ (r.p_ + 1)).1)) (some (q9.mk ([([116, 104, 101] : k6)] : List k6) ([] : List Q0))) (some (q9.mk ([] : List k6) ([] : List Q0)))) = some (q9.mk st []) := e1
 rw [e1', a8]
 dsimp only
 rw [hb, a8]
 dsimp only
 have c2 : ∃ st', (cond (b == (0 : Int)) (some (q9.mk ([([100, 111, 103] : k6), ([116, 104, 101] : k6)] : List k6) ([] : List Q0))) (some (q9.mk st []))) = some (q9.mk st' []) ∧ st' ∈ a5b := by
  cases b == (0 : Int)
  ·exact ⟨_, rfl, m1⟩
  ·exact ⟨_, rfl, by simp [a5b]⟩
 obtain ⟨st', e2, m2⟩ := c2
 rw [e2, a8, hd, a8]
 dsimp only
 cases d == (0 : Int)
 ·cases d == (1 : Int)
  ·exact ⟨_, _, rfl, ⟨by omega, by omega⟩, m2, by simp [b0z]⟩
  ·exact ⟨_, _, rfl, ⟨by omega, by omega⟩, m2, by simp [b0z]⟩
 ·exact ⟨_, _, rfl, ⟨by omega, by omega⟩, m2, by simp [b0z]⟩
theorem b1H {B : Nat} {c : q9} (h1 : c.Stops.length ≤ B ∧ ∀ s ∈ c.Stops, s.length ≤ B) (h2 : c.Syns.length ≤ B ∧ ∀ r ∈ c.Syns, r.To.length ≤ B ∧ r.From.length ≤ B ∧ ∀ w ∈ r.From, w.length ≤ B) : a2i B c := by
 constructor
 ·exact h1
 ·exact ⟨h2.1, fun r hr => ⟨(h2.2 r hr).2.1, (h2.2 r hr).1, (h2.2 r hr).2.2⟩⟩
theorem b4X : ∀ a ∈ a5b, a.length ≤ 90 ∧ ∀ s ∈ a, s.length ≤ 100 := by decide
theorem b6e : ∀ a ∈ b0z, a.length ≤ 90 ∧ ∀ r ∈ a, r.To.length ≤ 100 ∧ r.From.length ≤ 100 ∧ ∀ w ∈ r.From, w.length ≤ 100 := by decide
theorem a10.fit {c : q9} (h : a10 c) : a2i 100 c := by
 obtain ⟨a1, a2⟩ := b4X _ h.1
 obtain ⟨b1, b2⟩ := b6e _ h.2
 exact b1H ⟨by omega, a2⟩ ⟨by omega, b2⟩
theorem b1C {c : q9} {docs : List s7} (hd : X0 docs) : (a0i c docs).Entries.length ≤ 1000000000 := by
 have h1 := b0o hd
 have h2 := a1s (g := fun n => (G4 c docs n).map (H2 c docs n)) (m := 100000) (S5 docs) fun n _ => by rw [List.length_map]; exact a8Y c hd n
 unfold a0i
 show ((S5 docs).flatMap fun n => (G4 c docs n).map (H2 c docs n)).length ≤ _
 omega
theorem b8y (F : Nat) (r : u5) (hr : b34 r 1000) (hF : 200000 < F) : ∃ c docs p, a1f F r = some (c, a0i c docs, ⟨r.b_, p⟩) ∧ a9N r p 2003 ∧ a10 c ∧ X0 docs := by
 obtain ⟨h1, h2, h3⟩ := hr
 unfold a1f
 obtain ⟨c, p, hc, ⟨q1, q2⟩, hd⟩ := b6x F r ⟨h1, h2, by omega⟩
 obtain ⟨docs, p', hdc, ⟨q3, q4⟩, hdr⟩ := b6A F ⟨r.b_, p⟩ ⟨h1, by simp only; omega, by simp only; omega⟩ (by omega)
 simp only at q3 q4
 rw [hc, a8]
 dsimp only
 rw [hdc, a8]
 dsimp only
 rw [b2r F c docs hd.good (hdr.fit (by omega)) hF]
 exact ⟨c, docs, p', rfl, ⟨by omega, by omega⟩, hd, hdr.fit (by omega)⟩
theorem b35 (F : Nat) (r : u5) (hr : b34 r 1000) (hF : 200000 < F) : ∃ c s p, V5 F r = some (c, s, ⟨r.b_, p⟩) ∧ a9N r p 2005 ∧ a10 c ∧ X0 s.Docs ∧ s.Entries.length ≤ 1000000001 := by
 obtain ⟨h1, h2, h3⟩ := hr
 unfold V5
 obtain ⟨c, docs, p, hs, ⟨q1, q2⟩, hd, hf⟩ := b8y F r ⟨h1, h2, h3⟩ hF
 have hel := b1C (c := c) hf
 rw [hs, a8]
 dsimp only
 by_cases h0 : (0 : Int) < ((a0i c docs).Entries.length : Int)
 ·obtain ⟨i, hi, i0, i1⟩ := J3 F ⟨r.b_, p⟩ ((a0i c docs).Entries.length : Int) ⟨h1, by simp only; omega, by simp only; omega⟩
  obtain ⟨x, hx, _, _⟩ := J3 F ⟨r.b_, p + 1⟩ 16 ⟨h1, by simp only; omega, by simp only; omega⟩
  obtain ⟨e, he⟩ := a8B i0 (i1 (by omega))
  rw [c7 h0, i4, hi, a8]
  dsimp only
  rw [hx, a8]
  dsimp only
  cases x == (0 : Int)
  ·cases x == (1 : Int)
   ·cases x == (2 : Int)
    ·exact ⟨_, _, _, rfl, ⟨by omega, by omega⟩, hd, hf, by omega⟩
    ·have hne : 1 ≤ docs.length := by
      rcases Nat.eq_zero_or_pos docs.length with h | h
      ·rw [List.eq_nil_of_length_eq_zero h] at h0
       simp [a0i, S5] at h0
      ·exact h
     rw [g8, g8, i4, show (1 : Int) = ((1 : Nat) : Int) from rfl, show (a0i c docs).Docs = docs from rfl, a5p hne, a8]
     exact ⟨_, _, _, rfl, ⟨by omega, by omega⟩, hd, ⟨by have := hf.few; simp only [List.length_drop]; omega, fun d hm => hf.doc d (List.mem_of_mem_drop hm)⟩, by simp only; omega⟩
   ·rw [g8, i4, he, a8, G7 (by simp only [k5]; omega), a8]
    exact ⟨_, _, _, rfl, ⟨by omega, by omega⟩, hd, hf, by simp only [k7, k5]; omega⟩
  ·rw [i4, he, a8]
   exact ⟨_, _, _, rfl, ⟨by omega, by omega⟩, hd, hf, by simp only [List.length_set]; omega⟩
 ·rw [c6 h0, g8]
  exact ⟨_, _, _, rfl, ⟨by omega, by omega⟩, hd, hf, by omega⟩
end Go.Fk
set_option linter.unusedVariables false
namespace Go.Fk
open Go
end Go.Fk
set_option linter.unusedVariables false
namespace Go.Fk
open Go
end Go.Fk
