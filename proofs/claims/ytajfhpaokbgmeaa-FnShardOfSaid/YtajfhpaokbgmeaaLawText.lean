/-
  The draws of texts go through. Of no program.
-/
import Derived.Test.YtajfhpaokbgmeaaLawRd
namespace Go.Fk
open Go

theorem raw_ok (F : Nat) (r : GL30Rd) (hr : RdOk r) : ∃ s, M.spec_l30Raw F r = some (s, ⟨r.b_, r.p_ + 1⟩) ∧ s.length ≤ 17 := by
  unfold M.spec_l30Raw
  obtain ⟨s, hm, hs⟩ := of_ok F r (l := ([([99, 97, 116] : Str), ([67, 97, 116, 115] : Str), ([100, 111, 103] : Str), ([100, 111, 103, 115] : Str), ([114, 117, 110] : Str), ([82, 85, 78, 78, 73, 78, 71] : Str), ([116, 104, 101] : Str), ([114, 101, 100] : Str), ([98, 105, 103] : Str), ([110, 101, 119, 32, 121, 111, 114, 107] : Str), ([78, 101, 119, 32, 32, 89, 111, 114, 107] : Str), ([110, 121] : Str), ([102, 111, 120] : Str), ([112, 97, 115, 115, 101, 100] : Str), ([120, 49] : Str), ([97, 118, 101, 114, 121, 118, 101, 114, 121, 108, 111, 110, 103, 119, 111, 114, 100] : Str)] : List Str)) hr (by simp)
  rw [hs]
  exact ⟨s, rfl, (by decide : ∀ s ∈ ([([99, 97, 116] : Str), ([67, 97, 116, 115] : Str), ([100, 111, 103] : Str), ([100, 111, 103, 115] : Str), ([114, 117, 110] : Str), ([82, 85, 78, 78, 73, 78, 71] : Str), ([116, 104, 101] : Str), ([114, 101, 100] : Str), ([98, 105, 103] : Str), ([110, 101, 119, 32, 121, 111, 114, 107] : Str), ([78, 101, 119, 32, 32, 89, 111, 114, 107] : Str), ([110, 121] : Str), ([102, 111, 120] : Str), ([112, 97, 115, 115, 101, 100] : Str), ([120, 49] : Str), ([97, 118, 101, 114, 121, 118, 101, 114, 121, 108, 111, 110, 103, 119, 111, 114, 100] : Str)] : List Str), s.length ≤ 17) s hm⟩
theorem text_ok (F : Nat) (r : GL30Rd) (hr : r.b_.length ≤ 2000 ∧ 0 ≤ r.p_ ∧ r.p_ ≤ 1000000) (hF : 20 ≤ F) : ∃ s p, M.spec_l30Text F r = some (s, ⟨r.b_, p⟩) ∧ r.p_ ≤ p ∧ p ≤ r.p_ + 100 ∧ s.length ≤ 200 := by
  obtain ⟨h1, h2, h3⟩ := hr
  unfold M.spec_l30Text
  obtain ⟨n, hn, n0, n1⟩ := pick_ok F r 9 ⟨h1, h2, by omega⟩
  have n1 := n1 (by decide)
  rw [hn, Option.bind_some]
  simp only
  generalize hf : (fun (s34 : Str × Int × GL30Rd) => _ : Str × Int × GL30Rd → Option ((Str × Int × GL30Rd) ⊕ (Str × GL30Rd))) = f
  have key : ∀ (k : Nat) (s : Str) (p : Int) (F : Nat), k + 1 ≤ F → 0 ≤ p → p + 2 * k ≤ 2000000 → s.length + 19 * k ≤ 19 * 8 → k ≤ 8 → ∃ s' p', whileM f F (s, (k : Int), ⟨r.b_, p⟩) = some (s', ⟨r.b_, p'⟩) ∧ p ≤ p' ∧ p' ≤ p + 2 * k ∧ s'.length ≤ s.length + 19 * k := by
    intro k
    induction k with
    | zero =>
      intro s p F hF _ _ _ _
      obtain ⟨F, rfl⟩ : ∃ G, F = G + 1 := ⟨F - 1, by omega⟩
      rw [whileM]
      subst hf
      exact ⟨s, p, rfl, by omega, by omega, by omega⟩
    | succ k ih =>
      intro s p F' hF' p0 p1 hs hk
      obtain ⟨F', rfl⟩ : ∃ G, F' = G + 1 := ⟨F' - 1, by omega⟩
      obtain ⟨a, ha, hal⟩ := raw_ok F ⟨r.b_, p⟩ ⟨h1, p0, by simp only; omega⟩
      obtain ⟨b, hbm, hb⟩ := of_ok F ⟨r.b_, p + 1⟩ ([([32] : Str), ([32] : Str), ([44, 32] : Str), ([45] : Str), ([46, 32] : Str)] : List Str) ⟨h1, by simp only; omega, by simp only; omega⟩ (by simp)
      have hbl : b.length ≤ 2 := (by decide : ∀ s ∈ ([([32] : Str), ([32] : Str), ([44, 32] : Str), ([45] : Str), ([46, 32] : Str)] : List Str), s.length ≤ 2) b hbm
      have hstep : f (s, ((k + 1 : Nat) : Int), ⟨r.b_, p⟩) = some (.inl (s ++ a ++ b, (k : Int), ⟨r.b_, p + 1 + 1⟩)) := by
        rw [← hf]
        simp only
        rw [decide_eq_true (by omega), cond_true, ha, Option.bind_some]
        simp only
        have hm : 1000 ≤ maxLen := by decide
        have c1 : catS s a = some (s ++ a) := by rw [catS, if_pos (by omega)]
        have c2 : catS (s ++ a) b = some (s ++ a ++ b) := by rw [catS, if_pos (by rw [List.length_append]; omega)]
        have c3 : w64 (((k + 1 : Nat) : Int) - 1) = (k : Int) := by rw [w64_of ⟨by omega, by omega⟩]; omega
        rw [c1, Option.bind_some, hb, Option.bind_some]
        simp only
        rw [c2, Option.bind_some, c3]
      rw [whileM, hstep]
      simp only [Option.bind_some, Sum.elim_inl]
      obtain ⟨s', p', hw, a1, a2, a3⟩ := ih (s ++ a ++ b) (p + 1 + 1) F' (by omega) (by omega) (by omega) (by simp only [List.length_append]; omega) (by omega)
      refine ⟨s', p', hw, by omega, by omega, ?_⟩
      simp only [List.length_append] at a3
      omega
  obtain ⟨k, rfl⟩ := Int.eq_ofNat_of_zero_le n0
  obtain ⟨s', p', hw, a1, a2, a3⟩ := key k [] (r.p_ + 1) F (by omega) (by omega) (by omega) (by simp only [List.length_nil]; omega) (by omega)
  rw [hw]
  exact ⟨s', p', rfl, by omega, by omega, by simp only [List.length_nil] at a3; omega⟩
end Go.Fk
