/-
  Both, either, less, so many times: what the questions are worth. The laws, on the models.
-/
import Derived.Test.YtmkhlppjphodfaaGreatDoorModelL
import Derived.Test.YtmkhlppjphodfaaGreatDoorLawSc
import Derived.Test.YtmkhlppjphodfaaGreatDoorLawDrs
set_option linter.unusedVariables false
namespace Go.Fk
open Go
def N7 (c : q9) (s : z2) (d : Nat) (q : r5) (id : Int) : Int := if O9 c s then (s.Docs.find? fun x => x.Id == id).elim 0 (A9 c s d q) else 0
theorem a2K (F : Nat) {c : q9} {s : z2} {d : Nat} {q : r5} (id : Int) (hg : H5 d q) (hd : d ≤ 4) (hl : s.Docs.length ≤ 1000000) (hc : c.Stops.length ≤ 2000000) (hF : 1000000100 < F) : N9 F c s q id = some (N7 c s d q id) := by
 unfold N9 N7
 rw [a7z, a8, b3u F c s (by omega) hc (by omega), a8]
 cases ho : O9 c s with
 | false => rfl
 | true =>
  rw [l5, g8, b0s F hg hd (by omega), a8, l5, g8, if_pos rfl]
  cases hf : s.Docs.find? fun x => x.Id == id with
  | none => rfl
  | some x =>
   simp only [Option.elim, l5, a8, g8]
   rw [a82 c s x ho (List.mem_of_find?_eq_some hf) hg hd F (by omega)]; rfl
theorem b1d (F : Nat) {c : q9} {s : z2} {d : Nat} {q : r5} (id : Int) (hg : H5 d q) (hd : d ≤ 4) (hs : X0 s.Docs) (hc : a2i 100 c) (hF : 1000000100 < F) : V0 F c s q id = some (N7 c s d q id) := by
 unfold V0 N7
 rw [b7d F 100 c s hs hc (by omega) (by omega), a8]
 cases ho : O9 c s with
 | false => rfl
 | true =>
  have hfew := a5n ho
  obtain ⟨_, h2, _⟩ := a2f ho
  rw [l5, g8, b9Q F hg hd (by omega), a8, l5, g8, if_pos rfl, a9B F s id (by omega) (by omega), a8]
  cases hf : s.Docs.find? fun x => x.Id == id with
  | none => rfl
  | some x =>
   have hm := List.mem_of_find?_eq_some hf
   have hid : (x.Id == id) = true := List.find?_some (p := fun x : s7 => x.Id == id) hf
   have hx := (a2Y h2).2.1 x hm
   simp only [Option.getD_some, Option.elim, a8]
   rw [beq_eq_false_iff_ne.2 (by omega), g8, ← eq_of_beq hid, a9F c s x ho hm hc (by have := (hs.doc x hm).nums; omega) hg hd F (by omega)]; rfl
theorem a7L {c : q9} {s : z2} {d : Nat} {q : r5} (id : Int) (hg : H5 d q) (hd : d ≤ 3) : 0 ≤ N7 c s d q id ∧ N7 c s d q id ≤ 1000000000000 * 46656 := by
 unfold N7
 split
 ·rename_i ho
  cases s.Docs.find? fun x => x.Id == id with
  | none => simp only [Option.elim]; omega
  | some x =>
   have := a2e c s x ho hg
   have := b5e hd
   simp only [Option.elim]; omega
 ·exact ⟨Int.le_refl _, by decide⟩
theorem a4D (F : Nat) (code : List UInt8) (hF : 200000 < F) : ∃ c s q id, N1 F code = some (c, s, q, id) ∧ a2i 100 c ∧ X0 s.Docs ∧ H5 3 q := by
 unfold N1
 obtain ⟨r, hr, h1, h2⟩ := b6V F code
 rw [hr, a8]
 obtain ⟨c, s, p, hs, ⟨p0, p1⟩, hcd, hsf, _⟩ := b35 F r ⟨h1, by omega, by omega⟩ hF
 rw [hs, a8]
 dsimp only
 have hdq := b4a (d := 2) (by omega)
 obtain ⟨q, p', hq, ⟨q0, q1⟩, hg⟩ := a9p 2 F ⟨r.b_, p⟩ (by omega) (by omega) h1 (by simp only; omega) (by simp only; omega)
 simp only at q0 q1
 rw [show ((2 + 1 : Nat) : Int) = 3 from rfl] at hq
 rw [hq, a8]
 dsimp only
 obtain ⟨x, hx, _, _⟩ := J3 F ⟨r.b_, p'⟩ 9 ⟨h1, by simp only; omega, by simp only; omega⟩
 rw [hx]
 exact ⟨_, _, _, _, rfl, hcd.fit, hsf, hg⟩
theorem a7d {a b : r5} {d : Nat} (ha : H5 d a) (hb : H5 d b) : ∀ k ∈ [a, b], H5 d k := fun k hk => by
 simp only [List.mem_cons, List.not_mem_nil, or_false] at hk
 rcases hk with rfl | rfl
 ·exact ha
 ·exact hb
theorem a7M {c : q9} {s : z2} {d : Nat} {a b : r5} (id : Int) (hs : O9 c s = true) : N7 c s (d + 1) ⟨7, [], [], 0, 0, [a, b]⟩ id = (if N7 c s d a id = 0 ∨ N7 c s d b id = 0 then 0 else N7 c s d a id + N7 c s d b id) ∧
  N7 c s (d + 1) ⟨8, [], [], 0, 0, [a, b]⟩ id = N7 c s d a id + N7 c s d b id ∧ N7 c s (d + 1) ⟨9, [], [], 0, 0, [a, b]⟩ id = (if 0 < N7 c s d b id then 0 else N7 c s d a id) := by
 unfold N7
 rw [if_pos hs, if_pos hs, if_pos hs, if_pos hs, if_pos hs]
 cases s.Docs.find? fun x => x.Id == id with
 | none => simp
 | some x =>
  simp only [Option.elim]
  refine ⟨?_, ?_, rfl⟩
  ·show a3H true [A9 c s d a x, A9 c s d b x] = _
   unfold a3H
   by_cases h1 : A9 c s d a x = 0
   ·simp [h1]
   ·by_cases h2 : A9 c s d b x = 0
    ·simp [h2]
    ·simp [h1, h2]
  ·show a3H false [A9 c s d a x, A9 c s d b x] = _
   unfold a3H
   simp
theorem b43 (code more : List UInt8) : ∃ F, a2p F code more = some true := by
 refine ⟨2000000000, ?_⟩
 generalize hF : 2000000000 = F
 unfold a2p
 cases decide ((1048576 : Int) < (code.length : Int))
 case true => rfl
 cases decide ((1048576 : Int) < (more.length : Int))
 case true => rfl
 obtain ⟨c, s, q, id, h1, hc, hs, hq⟩ := a4D F code (by omega)
 obtain ⟨c', s', p, id', h2, _, _, hp⟩ := a4D F more (by omega)
 have hl := hs.few
 have hst := hc.stops.1
 rw [g8, a8, g8, h1, a8, h2, a8]
 dsimp only
 rw [a2K F id hq (by omega) (by omega) (by omega) (by omega), a8, b1d F id hq (by omega) hs hc (by omega), a8, beq_self_eq_true, l5, g8,
  b0s F (.or (by simp) (by simp) (a7d hq hp)) (by omega) (by omega), a8, l5, g8, b3u F c s (by omega) (by omega) (by omega), a8, a8]
 cases ho : O9 c s with
 | false => rw [Bool.not_false, i4, a8, beq_self_eq_true]
 | true =>
  rw [l5, g8, a2K F (d := 4) id (.or (by simp) (by simp) (a7d hq hp)) (by omega) (by omega) (by omega) (by omega), a8, a2K F id hp (by omega) (by omega) (by omega) (by omega), a8,
   a2K F (d := 4) id (.or (by simp) (by simp) (a7d hp hq)) (by omega) (by omega) (by omega) (by omega), a8, (a7M id ho).2.1, (a7M id ho).2.1]
  have ha := a7L (c := c) (s := s) id hq (by omega)
  have hb := a7L (c := c) (s := s) id hp (by omega)
  generalize N7 c s 3 q id = a at *
  generalize N7 c s 3 p id = b at *
  rw [y8 (n := a + b) ⟨by omega, by omega⟩, beq_self_eq_true, i4, Int.add_comm b a, beq_self_eq_true]
end Go.Fk
