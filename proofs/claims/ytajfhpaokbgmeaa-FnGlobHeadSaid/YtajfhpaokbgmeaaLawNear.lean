/-
  How far a word is from another: naught means the same word. Of no program.
-/
import Derived.Test.YtajfhpaokbgmeaaLawHead
namespace Go.Fk
open Go

def FarP (a b : Str) (i j : Nat) (v : Int) : Prop := 0 ≤ v ∧ v ≤ (i : Int) + j ∧ (v = 0 ↔ i = j ∧ a.take i = b.take j)
theorem min3_le (x y z : Int) : (if z < (if y < x then y else x) then z else (if y < x then y else x)) ≤ z ∧ ((if z < (if y < x then y else x) then z else (if y < x then y else x)) = x ∨ (if z < (if y < x then y else x) then z else (if y < x then y else x)) = y ∨ (if z < (if y < x then y else x) then z else (if y < x then y else x)) = z) ∧
    (if z < (if y < x then y else x) then z else (if y < x then y else x)) ≤ x := by
  split <;> split at * <;> omega
theorem farP_step {a b : Str} {i j : Nat} {x y : UInt8} {c u v : Int} (hi : a[i]? = some x) (hj : b[j]? = some y) (hc : FarP a b i j c) (hu : FarP a b i (j + 1) u) (hv : FarP a b (i + 1) j v) :
    FarP a b (i + 1) (j + 1) (if v + 1 < (if u + 1 < (c + if x = y then 0 else 1) then u + 1 else (c + if x = y then 0 else 1)) then v + 1 else (if u + 1 < (c + if x = y then 0 else 1) then u + 1 else (c + if x = y then 0 else 1))) := by
  obtain ⟨h1, h2, h3⟩ := min3_le (c + if x = y then 0 else 1) (u + 1) (v + 1)
  generalize (if v + 1 < (if u + 1 < (c + if x = y then 0 else 1) then u + 1 else (c + if x = y then 0 else 1)) then v + 1 else (if u + 1 < (c + if x = y then 0 else 1) then u + 1 else (c + if x = y then 0 else 1))) = m at *
  obtain ⟨c0, c1, c2⟩ := hc
  obtain ⟨u0, u1, _⟩ := hu
  obtain ⟨v0, v1, _⟩ := hv
  have hil := (List.getElem?_eq_some_iff.1 hi)
  have hjl := (List.getElem?_eq_some_iff.1 hj)
  obtain ⟨hil, hie⟩ := hil
  obtain ⟨hjl, hje⟩ := hjl
  have ta : a.take (i + 1) = a.take i ++ [x] := by rw [List.take_succ_eq_append_getElem hil, hie]
  have tb : b.take (j + 1) = b.take j ++ [y] := by rw [List.take_succ_eq_append_getElem hjl, hje]
  have hx01 : (0 : Int) ≤ if x = y then 0 else 1 := by split <;> omega
  refine ⟨by rcases h2 with h | h | h <;> omega, by omega, ?_⟩
  rw [ta, tb]
  constructor
  · intro hm
    have hc0 : (c + if x = y then 0 else 1) = 0 := by rcases h2 with h | h | h <;> omega
    have hcz : c = 0 := by omega
    have hxy : x = y := by
      by_cases h : x = y
      · exact h
      · rw [if_neg h] at hc0; omega
    obtain ⟨e1, e2⟩ := c2.1 hcz
    exact ⟨by omega, by rw [e2, hxy]⟩
  · rintro ⟨e1, e2⟩
    have e3 := List.append_inj' e2 rfl
    have hxy : x = y := by injection e3.2
    have hcz : c = 0 := c2.2 ⟨by omega, e3.1⟩
    rw [hcz, if_pos hxy] at h3
    rcases h2 with h | h | h <;> omega
theorem farP_row (a b : Str) (j : Nat) : FarP a b 0 j (j : Int) := by
  refine ⟨by omega, by omega, ?_⟩
  constructor
  · intro h
    obtain rfl : j = 0 := by omega
    exact ⟨rfl, rfl⟩
  · rintro ⟨rfl, _⟩; rfl
theorem farP_col (a b : Str) (i : Nat) : FarP a b (i + 1) 0 ((i + 1 : Nat) : Int) := by
  refine ⟨by omega, by omega, ?_⟩
  constructor
  · intro h; omega
  · rintro ⟨h, _⟩; omega
theorem nearFar_ok (F : Nat) (a b : Str) (ha : wordS a = true) (hb : wordS b = true) (hF : 100 < F) : ∃ r, M.impl_NearFar F a b = some r ∧ 0 ≤ r ∧ (r = 0 ↔ a = b) := by
  have la := word_len ha
  have lb := word_len hb
  unfold M.impl_NearFar
  rw [impl_word, ha, Option.bind_some, Bool.not_true, cond_false, impl_word, hb, Option.bind_some, Bool.not_true, Option.bind_some, cond_false, w64_succ' (by omega)]
  unfold makeL
  rw [if_pos ⟨by omega, by omega⟩, Option.bind_some, Int.toNat_natCast]
  -- the first row
  have key0 := fun f step => forE_run (σ := List Int) (f := f) (fun k row => row.length = b.length + 1 ∧ ∀ j, j < k → row[j]? = some (j : Int)) (List.replicate (b.length + 1) (0 : Int)).length step (List.replicate (b.length + 1) (0 : Int)).length 0 (List.replicate (b.length + 1) (0 : Int)) (by omega) ⟨by simp, fun j h => by omega⟩
  generalize hf0 : (fun (i55 : Nat) (s51 : (List Int)) => _ : Nat → List Int → Option (List Int)) = f0
  obtain ⟨row0, hr0, hl0, hv0⟩ := key0 f0 (fun i s hi hs => by
    subst hf0
    obtain ⟨h1, h2⟩ := hs
    simp only [List.length_replicate] at hi
    dsimp only
    rw [getI_n, List.getElem?_eq_getElem (show i < s.length by omega), Option.bind_some, Int.toNat_natCast]
    refine ⟨_, rfl, by simp [h1], fun j hj => ?_⟩
    rw [List.getElem?_set]
    by_cases hij : i = j
    · subst hij; rw [if_pos rfl, if_pos (by omega)]
    · rw [if_neg hij]; exact h2 j (by omega))
  simp only [List.length_replicate] at hr0 hv0
  rw [List.length_replicate, hr0, Option.bind_some, Option.bind_some]
  -- the rows
  have key := fun f step fin => whileM_run (σ := Int × List Int) (τ := List Int) (f := f) (Post := fun t => ∃ v, t[b.length]? = some v ∧ FarP a b a.length b.length v)
    (fun i s => s.1 = ((i + 1 : Nat) : Int) ∧ s.2.length = b.length + 1 ∧ ∀ j, j ≤ b.length → ∃ v, s.2[j]? = some v ∧ FarP a b i j v) a.length step fin a.length 0 ((1 : Int), row0) F (by omega) (by omega)
    ⟨rfl, hl0, fun j hj => ⟨(j : Int), hv0 j (by omega), farP_row a b j⟩⟩
  generalize hf : (fun (s91 : Int × (List Int)) => _ : Int × List Int → Option ((Int × List Int) ⊕ (List Int))) = f
  obtain ⟨t, ht, v, hv, hp⟩ := key f (fun i s hi hs => by
    subst hf
    obtain ⟨s1, row⟩ := s
    obtain ⟨h1, h2, h3⟩ := hs
    simp only at h1 h2 h3
    subst h1
    dsimp only
    obtain ⟨c0, hc0, hc0p⟩ := h3 0 (by omega)
    rw [decide_eq_true (by omega), cond_true, show (0 : Int) = ((0 : Nat) : Int) from rfl, getI_n, hc0, Option.bind_some, Option.bind_some, Int.toNat_natCast]
    have key2 := fun g step2 fin2 => whileM_run (σ := Int × Int × List Int) (τ := List Int) (f := g) (Post := fun t => t.length = b.length + 1 ∧ ∀ j, j ≤ b.length → ∃ v, t[j]? = some v ∧ FarP a b (i + 1) j v)
      (fun k s => s.2.1 = ((k + 1 : Nat) : Int) ∧ FarP a b i k s.1 ∧ s.2.2.length = b.length + 1 ∧ (∀ j, j ≤ k → ∃ v, s.2.2[j]? = some v ∧ FarP a b (i + 1) j v) ∧ ∀ j, k < j → j ≤ b.length → ∃ v, s.2.2[j]? = some v ∧ FarP a b i j v)
      b.length step2 fin2 b.length 0 (c0, (1 : Int), row.set 0 ((i + 1 : Nat) : Int)) F (by omega) (by omega)
      ⟨rfl, hc0p, by simp [h2], fun j hj => ⟨((i + 1 : Nat) : Int), by
        have : j = 0 := by omega
        subst this
        rw [List.getElem?_set, if_pos rfl, if_pos (by omega)], by
        have : j = 0 := by omega
        subst this
        exact farP_col a b i⟩, fun j hj hj2 => by
        obtain ⟨v, hv, hp⟩ := h3 j hj2
        exact ⟨v, by simp only; rw [List.getElem?_set, if_neg (by omega)]; exact hv, hp⟩⟩
    generalize hg : (fun (s139 : Int × Int × (List Int)) => _ : Int × Int × List Int → Option ((Int × Int × List Int) ⊕ (List Int))) = g
    obtain ⟨t, ht, hp1, hp2⟩ := key2 g (fun k s hk hs => by
      subst hg
      obtain ⟨cr, s1, row⟩ := s
      obtain ⟨q1, q2, q3, q4, q5⟩ := hs
      simp only at q1 q2 q3 q4 q5
      subst q1
      dsimp only
      have hax : a[i]? = some a[i] := List.getElem?_eq_getElem hi
      have hbx : b[k]? = some b[k] := List.getElem?_eq_getElem hk
      obtain ⟨u, hu, hup⟩ := q5 (k + 1) (by omega) (by omega)
      obtain ⟨w, hw, hwp⟩ := q4 k (by omega)
      have e1 : w64 (((i + 1 : Nat) : Int) - 1) = (i : Int) := by rw [w64_of ⟨by omega, by omega⟩]; omega
      have e2 : w64 (((k + 1 : Nat) : Int) - 1) = (k : Int) := by rw [w64_of ⟨by omega, by omega⟩]; omega
      have b1 := q2.1; have b2 := q2.2.1; have b3 := hup.1; have b4 := hup.2.1; have b5 := hwp.1; have b6 := hwp.2.1
      rw [decide_eq_true (by omega), cond_true, e1, e2, getI_n, hax, Option.bind_some, getI_n, hbx, Option.bind_some]
      have hcost : (cond (!(a[i] == b[k])) (some (w64 (cr + (1 : Int)))) (some cr) : Option Int) = some (cr + if a[i] = b[k] then 0 else 1) := by
        by_cases h : a[i] = b[k]
        · rw [if_pos h, show (a[i] == b[k]) = true from beq_iff_eq.2 h]; simp
        · rw [if_neg h, beq_eq_false_iff_ne.2 h, w64_of ⟨by omega, by omega⟩]; rfl
      rw [hcost, Option.bind_some, getI_n, hu, Option.bind_some, Option.bind_some, getI_n, hw, Option.bind_some, Option.bind_some, w64_succ' (by omega), w64_of (n := u + 1) ⟨by omega, by omega⟩, w64_of (n := w + 1) ⟨by omega, by omega⟩, Int.toNat_natCast]
      have hst := farP_step hax hbx q2 hup hwp
      refine .inl ⟨_, rfl, rfl, hup, by simp [q3], fun j hj => ?_, fun j hj hj2 => ?_⟩
      · simp only
        rw [List.getElem?_set]
        by_cases hjk : k + 1 = j
        · subst hjk
          rw [if_pos rfl, if_pos (by omega)]
          exact ⟨_, rfl, hst⟩
        · rw [if_neg hjk]
          exact q4 j (by omega)
      · simp only
        rw [List.getElem?_set, if_neg (by omega)]
        exact q5 j (by omega) hj2) (fun s hs => by
      subst hg
      obtain ⟨cr, s1, row⟩ := s
      obtain ⟨q1, q2, q3, q4, q5⟩ := hs
      simp only at q1 q2 q3 q4 q5
      subst q1
      dsimp only
      rw [decide_eq_false (by omega), cond_false]
      exact ⟨_, rfl, q3, q4⟩)
    have ht' : whileM g F (c0, (1 : Int), row.set 0 ((i + 1 : Nat) : Int)) = some t := ht
    rw [ht', Option.bind_some, Option.bind_some, w64_succ' (by omega)]
    exact .inl ⟨_, rfl, rfl, hp1, hp2⟩) (fun s hs => by
    subst hf
    obtain ⟨s1, row⟩ := s
    obtain ⟨h1, h2, h3⟩ := hs
    simp only at h1 h2 h3
    subst h1
    dsimp only
    rw [decide_eq_false (by omega), cond_false]
    exact ⟨_, rfl, h3 b.length (Nat.le_refl _)⟩)
  rw [ht, Option.bind_some, Option.bind_some, getI_n, hv]
  refine ⟨v, rfl, hp.1, ?_⟩
  rw [hp.2.2, List.take_length, List.take_length]
  constructor
  · exact fun h => h.2
  · rintro rfl; exact ⟨rfl, rfl⟩
end Go.Fk
