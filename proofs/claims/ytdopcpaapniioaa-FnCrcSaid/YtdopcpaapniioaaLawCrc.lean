/-
  FnCrc in plain data: both sums are one fold over 32-bit words; the fold tells two texts apart that differ in one byte. Of no program.
-/
import Derived.Test.YtdopcpaapniioaaLawDraw
namespace Go.Fk
open Go

def crcStep (c : UInt32) : UInt32 := cond ((c &&& 1) == 1) ((c >>> UInt32.ofNat 1) ^^^ 3988292384) (c >>> UInt32.ofNat 1)
def crc8 (c : UInt32) : UInt32 := crcStep (crcStep (crcStep (crcStep (crcStep (crcStep (crcStep (crcStep c)))))))
def crcByte (c : UInt32) (b : UInt8) : UInt32 := crc8 (c ^^^ b.toUInt32)
def crcS (s : Str) : UInt32 := ~~~ (s.foldl crcByte 4294967295)

theorem shr1 (c : UInt32) : (c >>> UInt32.ofNat 1).toNat = c.toNat / 2 := by
  rw [UInt32.toNat_shiftRight]
  simp [Nat.shiftRight_eq_div_pow]
theorem odd32 (c : UInt32) : ((c &&& 1) == 1) = decide (c.toNat % 2 = 1) := by
  rw [Bool.eq_iff_iff, beq_iff_eq, decide_eq_true_iff, ← UInt32.toNat_inj, UInt32.toNat_and]
  have : c.toNat &&& 1 = c.toNat % 2 := Nat.and_one_is_mod _
  simp [this]
theorem crcStep_nat (c : UInt32) : (crcStep c).toNat = if c.toNat % 2 = 1 then (c.toNat / 2) ^^^ 3988292384 else c.toNat / 2 := by
  unfold crcStep
  rw [odd32]
  by_cases h : c.toNat % 2 = 1
  · rw [if_pos h, decide_eq_true h]
    show ((c >>> UInt32.ofNat 1) ^^^ 3988292384).toNat = _
    rw [UInt32.toNat_xor, shr1]; rfl
  · rw [if_neg h, decide_eq_false h]
    exact shr1 c
theorem xor_cancel {a b p : Nat} (h : a ^^^ p = b ^^^ p) : a = b := by
  have : (a ^^^ p) ^^^ p = (b ^^^ p) ^^^ p := by rw [h]
  simpa [Nat.xor_assoc] using this
theorem half_xor {a b : Nat} (ha : a < 4294967296) (hb : b < 4294967296) (h : a / 2 ^^^ 3988292384 = b / 2) : False := by
  have h1 : a / 2 ^^^ b / 2 = 3988292384 := by rw [← h, ← Nat.xor_assoc, Nat.xor_self, Nat.zero_xor]
  have h2 : a / 2 ^^^ b / 2 < 2 ^ 31 := Nat.xor_lt_two_pow (by omega) (by omega)
  rw [h1] at h2
  exact absurd h2 (by decide)
theorem crcStep_inj {a b : UInt32} (h : crcStep a = crcStep b) : a = b := by
  have h' := congrArg UInt32.toNat h
  rw [crcStep_nat, crcStep_nat] at h'
  have ha := a.toNat_lt
  have hb := b.toNat_lt
  apply UInt32.toNat_inj.1
  split at h' <;> split at h'
  · have := xor_cancel h'; omega
  · exact (half_xor ha hb h').elim
  · exact (half_xor hb ha h'.symm).elim
  · omega
theorem crc8_inj {a b : UInt32} (h : crc8 a = crc8 b) : a = b := by
  unfold crc8 at h
  exact crcStep_inj (crcStep_inj (crcStep_inj (crcStep_inj (crcStep_inj (crcStep_inj (crcStep_inj (crcStep_inj h)))))))
theorem xor32_right {a b p : UInt32} (h : a ^^^ p = b ^^^ p) : a = b := by
  apply UInt32.toNat_inj.1
  have h' := congrArg UInt32.toNat h
  rw [UInt32.toNat_xor, UInt32.toNat_xor] at h'
  exact xor_cancel h'
theorem crcByte_inj {a b : UInt32} {x : UInt8} (h : crcByte a x = crcByte b x) : a = b := xor32_right (crc8_inj h)
theorem crcByte_inj2 {a : UInt32} {x y : UInt8} (h : crcByte a x = crcByte a y) : x = y := by
  have h1 := crc8_inj h
  rw [UInt32.xor_comm a, UInt32.xor_comm a] at h1
  have h2 := congrArg UInt32.toNat (xor32_right h1)
  simp only [UInt8.toNat_toUInt32] at h2
  exact UInt8.toNat_inj.1 h2
theorem fold_inj : ∀ (s : Str) {a b : UInt32}, s.foldl crcByte a = s.foldl crcByte b → a = b
  | [], _, _, h => h
  | _ :: s, _, _, h => crcByte_inj (fold_inj s h)
theorem fold_set : ∀ (s : Str) (k : Nat) (x y : UInt8) (c : UInt32), s[k]? = some x → (s.set k y).foldl crcByte c = s.foldl crcByte c → y = x
  | [], k, _, _, _, h, _ => by simp at h
  | z :: s, 0, x, y, c, h, e => by
    simp at h
    subst h
    simp only [List.set_cons_zero, List.foldl_cons] at e
    exact crcByte_inj2 (fold_inj s e)
  | z :: s, k + 1, x, y, c, h, e => by
    simp only [List.set_cons_succ, List.foldl_cons] at e
    exact fold_set s k x y _ (by simpa using h) e
theorem not32_inj {a b : UInt32} (h : ~~~a = ~~~b) : a = b := by
  have := congrArg (fun c : UInt32 => ~~~c) h
  simpa using this

/-! the program's sum -/
theorem forE_all {σ : Type} {f : Nat → σ → Option σ} {g : σ → σ} (h : ∀ i s, f i s = some (g s)) : ∀ k i s, forE f k i s = some (Nat.repeat g k s)
  | 0, _, _ => rfl
  | k + 1, i, s => by
    rw [forE, h, Option.bind_some, forE_all h k]
    congr 1
    have : ∀ k s, Nat.repeat g k (g s) = g (Nat.repeat g k s) := by
      intro k
      induction k with
      | zero => intro s; rfl
      | succ k ih => intro s; show g (Nat.repeat g k (g s)) = _; rw [ih]; rfl
    exact this k s
theorem forE_list {σ α : Type} {f : Nat → σ → Option σ} {g : σ → α → σ} {xs : List α} (h : ∀ i s x, xs[i]? = some x → f i s = some (g s x)) : ∀ k i s, i + k = xs.length → forE f k i s = some ((xs.drop i).foldl g s)
  | 0, i, s, e => by rw [List.drop_eq_nil_of_le (by omega)]; rfl
  | k + 1, i, s, e => by
    have hi : i < xs.length := by omega
    rw [forE, h i s xs[i] (List.getElem?_eq_getElem hi), Option.bind_some, forE_list h k (i + 1) _ (by omega), List.drop_eq_getElem_cons hi]
    rfl
theorem getI_nat {α : Type} (xs : List α) (i : Nat) : getI xs (i : Int) = xs[i]? := by simp [getI]
theorem impl_crc (F : Nat) (s : Str) : M.impl_Crc F s = some ((crcS s).toNat : Int) := by
  unfold M.impl_Crc
  rw [forE_list (g := crcByte) (xs := s) (fun i c x hx => ?_) _ _ _ (by omega)]
  · rfl
  · rw [getI_nat, hx]
    simp only [Option.bind_some]
    rw [forE_all (g := crcStep) (fun i c => ?_)]
    · rfl
    · unfold crcStep
      cases ((c &&& 1) == 1) <;> rfl
/-! the spec's sum -/
theorem xorI32 (a b : UInt32) : xorI (a.toNat : Int) (b.toNat : Int) = ((a ^^^ b).toNat : Int) := by
  unfold xorI
  have ha := a.toNat_lt
  have hb := b.toNat_lt
  have hx : a.toNat ^^^ b.toNat < 2 ^ 32 := Nat.xor_lt_two_pow ha hb
  have e : (BitVec.ofInt 64 (a.toNat : Int) ^^^ BitVec.ofInt 64 (b.toNat : Int)).toNat = a.toNat ^^^ b.toNat := by
    rw [BitVec.toNat_xor]
    simp only [BitVec.ofInt_natCast, BitVec.toNat_ofNat]
    rw [Nat.mod_eq_of_lt (by omega), Nat.mod_eq_of_lt (by omega)]
  rw [e, UInt32.toNat_xor]
  exact w64_of ⟨by omega, by omega⟩
theorem spec_bit (c : UInt32) (i : Int) (h0 : 0 ≤ i) (h8 : i < 8) :
    ((remI (c.toNat : Int) (2 : Int)).bind fun x51 => (cond (x51 == (1 : Int)) ((quoI (c.toNat : Int) (2 : Int)).bind fun x56 => (some (Sum.inl (β := Int) ((xorI x56 (3988292384 : Int)), (w64 (i + (1 : Int)))))))
      ((quoI (c.toNat : Int) (2 : Int)).bind fun x59 => (some (Sum.inl (x59, (w64 (i + (1 : Int))))))))) = some (.inl (((crcStep c).toNat : Int), i + 1)) := by
  have hc := c.toNat_lt
  have h1 : remI (c.toNat : Int) 2 = some ((c.toNat % 2 : Nat) : Int) := by simp [remI, Int.tmod_eq_emod_of_nonneg]
  have h2 : quoI (c.toNat : Int) 2 = some ((c >>> UInt32.ofNat 1).toNat : Int) := by
    simp only [quoI, shr1]
    rw [if_neg (by decide), Int.tdiv_eq_ediv_of_nonneg (by omega), w64_of ⟨by omega, by omega⟩]
    rfl
  have h3 : w64 (i + 1) = i + 1 := w64_of ⟨by omega, by omega⟩
  rw [h1, h2, h3]
  simp only [Option.bind_some]
  unfold crcStep
  rw [odd32]
  by_cases h : c.toNat % 2 = 1
  · rw [h, decide_eq_true rfl]
    have := xorI32 (c >>> UInt32.ofNat 1) 3988292384
    simp only [cond_true]
    rw [← this]
    rfl
  · have h' : c.toNat % 2 = 0 := by omega
    rw [h', decide_eq_false (by decide)]
    rfl
theorem whileM_in {σ τ : Type} {f : σ → Option (σ ⊕ τ)} {s s' : σ} {k : Nat} (h : f s = some (.inl s')) : whileM f (k + 1) s = whileM f k s' := by rw [whileM, h]; rfl
theorem whileM_out {σ τ : Type} {f : σ → Option (σ ⊕ τ)} {s : σ} {t : τ} {k : Nat} (h : f s = some (.inr t)) : whileM f (k + 1) s = some t := by rw [whileM, h]; rfl
theorem spec_crc (F : Nat) (s : Str) (hF : s.length + 10 ≤ F) (hs : s.length ≤ 1000000000) : M.spec_Crc F s = some ((crcS s).toNat : Int) := by
  unfold M.spec_Crc M.spec_l19Crc
  have key : ∀ (f : Int × Int → Option ((Int × Int) ⊕ Int)), (∀ (c : UInt32) (i : Nat) (x : UInt8), s[i]? = some x → f ((UInt32.toNat c : Int), (i : Int)) = some (.inl (((crcByte c x).toNat : Int), ((i + 1 : Nat) : Int)))) → (∀ c : Int, f (c, (s.length : Int)) = some (.inr c)) →
      ∀ k i c, i + k = s.length → ∀ F, k + 1 ≤ F → whileM f F ((UInt32.toNat c : Int), (i : Int)) = some (((s.drop i).foldl crcByte c).toNat : Int) := by
    intro f h1 h2 k
    induction k with
    | zero =>
      intro i c e F hF
      obtain ⟨F, rfl⟩ : ∃ G, F = G + 1 := ⟨F - 1, by omega⟩
      rw [show i = s.length by omega, whileM_out (h2 _), List.drop_eq_nil_of_le (by omega)]
      rfl
    | succ k ih =>
      intro i c e F hF
      obtain ⟨F, rfl⟩ : ∃ G, F = G + 1 := ⟨F - 1, by omega⟩
      have hi : i < s.length := by omega
      rw [whileM_in (h1 c i s[i] (List.getElem?_eq_getElem hi)), ih (i + 1) _ (by omega) F (by omega), List.drop_eq_getElem_cons hi]
      rfl
  rw [show (4294967295 : Int) = ((4294967295 : UInt32).toNat : Int) from rfl, show (0 : Int) = ((0 : Nat) : Int) from rfl]
  rw [key _ (fun c i x hx => ?_) (fun c => ?_) s.length 0 _ (by omega) F (by omega)]
  · simp only [Option.bind_some, List.drop_zero]
    rw [xorI32]
    unfold crcS
    congr 3
    rw [UInt32.xor_comm]
    apply UInt32.eq_of_toBitVec_eq
    rw [UInt32.toBitVec_xor, UInt32.toBitVec_not]
    exact BitVec.allOnes_xor
  · have hi := (List.getElem?_eq_some_iff.1 hx).1
    simp only
    rw [decide_eq_true (by omega), cond_true, getI_nat, hx]
    simp only [Option.bind_some]
    rw [show (x.toNat : Int) = (x.toUInt32.toNat : Int) by rw [UInt8.toNat_toUInt32], xorI32]
    have hin : ∀ (f : Int × Int → Option ((Int × Int) ⊕ Int)), (∀ c (i : Int), 0 ≤ i → i < 8 → f ((UInt32.toNat c : Int), i) = some (.inl (((crcStep c).toNat : Int), i + 1))) → (∀ c : Int, f (c, 8) = some (.inr c)) →
        ∀ c, whileM f F ((UInt32.toNat c : Int), 0) = some ((crc8 c).toNat : Int) := by
      intro f h1 h2 c
      obtain ⟨F, rfl⟩ : ∃ G, F = G + 9 := ⟨F - 9, by omega⟩
      rw [show F + 9 = F + 8 + 1 from rfl, whileM_in (h1 _ 0 (by decide) (by decide)), whileM_in (h1 _ (0 + 1) (by decide) (by decide)), whileM_in (h1 _ (0 + 1 + 1) (by decide) (by decide)), whileM_in (h1 _ (0 + 1 + 1 + 1) (by decide) (by decide)),
        whileM_in (h1 _ (0 + 1 + 1 + 1 + 1) (by decide) (by decide)), whileM_in (h1 _ (0 + 1 + 1 + 1 + 1 + 1) (by decide) (by decide)), whileM_in (h1 _ (0 + 1 + 1 + 1 + 1 + 1 + 1) (by decide) (by decide)),
        whileM_in (h1 _ (0 + 1 + 1 + 1 + 1 + 1 + 1 + 1) (by decide) (by decide))]
      exact whileM_out (h2 _)
    rw [show ((0 : Nat) : Int) = 0 from rfl, hin _ (fun c i h0 h8 => ?_) (fun c => rfl)]
    · simp only [Option.bind_some]
      rw [w64_of ⟨by omega, by omega⟩]
      rfl
    · simp only
      rw [decide_eq_true h8, cond_true]
      exact spec_bit c i h0 h8
  · simp only
    rw [decide_eq_false (by omega)]
    rfl
theorem crc_check : crcS [49, 50, 51, 52, 53, 54, 55, 56, 57] = 3421780262 := by decide +kernel
theorem crc_nil : crcS [] = 0 := by decide +kernel
/-- The law, for whatever text is drawn. -/
theorem law_crc (code more : List UInt8) : ∃ F, M.laws_FnCrc F code more = some true := by
  obtain ⟨s, hs, hl⟩ := drawCrc_ok 100000 code (by decide)
  refine ⟨100000, ?_⟩
  unfold M.laws_FnCrc
  generalize (1048576 : Int) = B
  generalize hg : (cond (decide (B < (code.length : Int))) (some true) (some (decide (B < (more.length : Int)))) : Option Bool) = g
  have hg' : g = some true ∨ g = some false := by
    subst hg
    cases decide (B < (code.length : Int)) <;> cases decide (B < (more.length : Int)) <;> simp
  rcases hg' with rfl | rfl
  · rfl
  · simp only [Option.bind_some, cond_false, hs, impl_crc, spec_crc 100000 s (by omega) (by omega), crc_check]
    have hc : (((UInt32.toNat 3421780262 : Nat) : Int) == (3421780262 : Int)) = true := by decide
    simp only [hc]
    cases s with
    | nil => rw [crc_nil]; rfl
    | cons z s =>
      have hpos : (0 : Int) < ((z :: s).length : Int) := by rw [List.length_cons]; omega
      have h1 : (((z :: s).length : Int) == (0 : Int)) = false := by rw [beq_eq_false_iff_ne]; omega
      simp only [beq_self_eq_true, Bool.not_true, cond_false, h1, Option.bind_some]
      have hk : remI (more.length : Int) ((z :: s).length : Int) = some ((more.length % (z :: s).length : Nat) : Int) := by
        unfold remI
        rw [if_neg (by omega), Int.tmod_eq_emod_of_nonneg (by omega)]
        rfl
      have hlt : more.length % (z :: s).length < (z :: s).length := Nat.mod_lt _ (by simp)
      have h8 : remI (more.length : Int) 8 = some ((more.length % 8 : Nat) : Int) := by
        unfold remI
        rw [if_neg (by decide), Int.tmod_eq_emod_of_nonneg (by omega)]
        rfl
      have hm8 : more.length % 8 < 8 := Nat.mod_lt _ (by decide)
      generalize more.length % (z :: s).length = k at hk hlt
      generalize more.length % 8 = j at h8 hm8
      have hget : (z :: s)[k]? = some (z :: s)[k] := List.getElem?_eq_getElem hlt
      generalize (z :: s)[k] = x at hget
      have hsh : shlB 1 (j : Int) = some (UInt8.ofNat (2 ^ j)) := by
        unfold shlB
        rw [if_pos ⟨by omega, by omega⟩]
        simp
      have hd : UInt8.ofNat (2 ^ j) ≠ 0 := by
        have : ∀ j < 8, UInt8.ofNat (2 ^ j) ≠ 0 := by decide
        exact this j hm8
      simp only [hk, h8, Option.bind_some, getI_nat, hget, hsh, Int.toNat_natCast]
      congr 1
      rw [Bool.not_eq_true', beq_eq_false_iff_ne]
      intro e
      have e1 : crcS ((z :: s).set k (x ^^^ UInt8.ofNat (2 ^ j))) = crcS (z :: s) := UInt32.toNat_inj.1 (by omega)
      have e2 := fold_set (z :: s) k x _ _ hget (not32_inj e1)
      apply hd
      have e3 := congrArg UInt8.toNat e2
      rw [UInt8.toNat_xor] at e3
      apply UInt8.toNat_inj.1
      have e4 : x.toNat ^^^ (x.toNat ^^^ (UInt8.ofNat (2 ^ j)).toNat) = x.toNat ^^^ x.toNat := by rw [e3]
      rw [← Nat.xor_assoc, Nat.xor_self, Nat.zero_xor] at e4
      simpa using e4
end Go.Fk
