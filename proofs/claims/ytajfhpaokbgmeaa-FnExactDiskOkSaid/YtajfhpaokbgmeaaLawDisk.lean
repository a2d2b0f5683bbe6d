/-
  The program's and the reference's tests of a disk say the same. Of no program.
-/
import Derived.Test.YtajfhpaokbgmeaaLawWord
namespace Go.Fk
open Go

theorem less_total : ∀ a b : Str, (!strLess a b) = (strLess b a || b == a)
  | [], [] => rfl
  | [], _ :: _ => rfl
  | _ :: _, [] => rfl
  | a :: x, b :: y => by
    have ih := less_total x y
    simp only [strLess] at ih
    simp only [strLess, Op.bytesLess, List.cons_beq_cons]
    rcases Nat.lt_trichotomy a.toNat b.toNat with h | h | h
    · have h1 : decide (a < b) = true := decide_eq_true (UInt8.lt_iff_toNat_lt.2 h)
      have h2 : decide (b < a) = false := decide_eq_false (fun q => by have := UInt8.lt_iff_toNat_lt.1 q; omega)
      have h3 : (b == a) = false := beq_eq_false_iff_ne.2 (fun q => by subst q; omega)
      simp [h1, h2, h3]
    · have h0 := UInt8.toNat_inj.1 h
      subst h0
      have h1 : decide (a < a) = false := decide_eq_false (fun q => by have := UInt8.lt_iff_toNat_lt.1 q; omega)
      simp only [h1, Bool.false_or, beq_self_eq_true, Bool.true_and]
      exact ih
    · have h1 : decide (a < b) = false := decide_eq_false (fun q => by have := UInt8.lt_iff_toNat_lt.1 q; omega)
      have h2 : decide (b < a) = true := decide_eq_true (UInt8.lt_iff_toNat_lt.2 h)
      have h3 : (a == b) = false := beq_eq_false_iff_ne.2 (fun q => by subst q; omega)
      simp [h1, h2, h3]
/-- the file at a place is in order -/
def diskP (fs : List GFile) (q : GFile × Nat) : Bool := wordS q.1.Name && (decide (q.2 = 0) || ((fs[q.2 - 1]?).elim true fun g => strLess g.Name q.1.Name))
def diskS (d : GDisk) : Bool := d.Files.zipIdx.all (diskP d.Files) && decide ((d.Files.length : Int) ≤ 24)
theorem zip_at {α : Type} {xs : List α} {i : Nat} {q : α × Nat} (h : xs.zipIdx[i]? = some q) : xs[i]? = some q.1 ∧ q.2 = i := by
  rw [List.getElem?_zipIdx] at h
  obtain ⟨x, hx, rfl⟩ := Option.map_eq_some_iff.1 h
  exact ⟨hx, by simp⟩
theorem impl_disk (F : Nat) (d : GDisk) (hl : d.Files.length < 9000000000000000000) : M.impl_DiskOk F d = some (diskS d) := by
  unfold M.impl_DiskOk diskS
  have hz : d.Files.length = d.Files.zipIdx.length := by simp
  have key := fun f h => all_from (p := diskP d.Files) (xs := d.Files.zipIdx) (f := f) h d.Files.length 0 (by omega)
  rw [key _ (fun i q hq => ?_), List.drop_zero]
  · cases d.Files.zipIdx.all (diskP d.Files) <;> rfl
  · obtain ⟨hx, hi⟩ := zip_at hq
    have hlt := (List.getElem?_eq_some_iff.1 hx).1
    rw [getI_nat', hx, Option.bind_some, impl_word, Option.bind_some]
    unfold diskP
    rw [hi]
    by_cases h0 : i = 0
    · subst h0
      cases wordS q.1.Name <;> rfl
    · rw [decide_eq_true (show (0 : Int) < (i : Int) by omega), cond_true, w64_pred (by omega) (by omega), getI_nat', List.getElem?_eq_getElem (show i - 1 < d.Files.length by omega), Option.bind_some, decide_eq_false h0]
      simp only [Option.elim_some, Bool.false_or]
      cases wordS q.1.Name <;> cases strLess d.Files[i - 1].Name q.1.Name <;> rfl
theorem spec_disk (F : Nat) (d : GDisk) (hF : d.Files.length < F) (hl : d.Files.length < 9000000000000000000) (hn : ∀ f ∈ d.Files, f.Name.length < F ∧ f.Name.length ≤ maxLen) : M.spec_DiskOk F d = some (diskS d) := by
  unfold M.spec_DiskOk M.spec_l19DiskOk diskS
  have hz : d.Files.length = d.Files.zipIdx.length := by simp
  have key := fun f h h0 => all_while (p := diskP d.Files) (xs := d.Files.zipIdx) (f := f) h h0 d.Files.length 0 F (by omega) hF
  rw [show (0 : Int) = ((0 : Nat) : Int) from rfl, key _ (fun i q hq => ?_) ?_, List.drop_zero]
  · cases d.Files.zipIdx.all (diskP d.Files) <;> rfl
  · rw [← hz, decide_eq_false (by omega)]; rfl
  · obtain ⟨hx, hi⟩ := zip_at hq
    have hlt := (List.getElem?_eq_some_iff.1 hx).1
    obtain ⟨n1, n2⟩ := hn q.1 (List.mem_of_getElem? hx)
    rw [decide_eq_true (by omega), cond_true, getI_nat', hx, Option.bind_some, spec_word F _ n1 n2, Option.bind_some, Option.bind_some, w64_succ' (by omega)]
    unfold diskP
    rw [hi]
    by_cases h0 : i = 0
    · subst h0
      cases wordS q.1.Name <;> rfl
    · rw [decide_eq_true (show ((0 : Nat) : Int) < (i : Int) by omega), cond_true, w64_pred (by omega) (by omega), getI_nat', List.getElem?_eq_getElem (show i - 1 < d.Files.length by omega), Option.bind_some, decide_eq_false h0]
      have ht := less_total d.Files[i - 1].Name q.1.Name
      simp only [Option.elim_some, Bool.false_or]
      rw [← ht]
      cases wordS q.1.Name <;> cases strLess d.Files[i - 1].Name q.1.Name <;> rfl
theorem szFile_ok (F : Nat) (f : GFile) (left : Int) : ∃ r, M.laws_szFile F f left = some r := by
  unfold M.laws_szFile
  cases decide ((w64 (left - (f.Name.length : Int))) < (0 : Int))
  · rw [cond_false, Option.bind_some]
    cases decide (w64 (w64 (left - (f.Name.length : Int)) - (f.Text.length : Int)) < 0)
    · exact ⟨_, rfl⟩
    · exact ⟨_, rfl⟩
  · exact ⟨_, rfl⟩
theorem szFileS_ok (F : Nat) (xs : List GFile) (hF : xs.length < F) (hl : xs.length ≤ maxLen) : ∃ r, M.laws_szFileS F xs 1048576 = some r ∧ (0 ≤ r → xs.length ≤ 1048576) := by
  have hm : maxLen ≤ 9223372036854775807 := by decide
  unfold M.laws_szFileS
  have e1 : w64 (1048576 - (xs.length : Int)) = 1048576 - (xs.length : Int) := w64_of ⟨by omega, by omega⟩
  rw [e1]
  by_cases h : (1048576 : Int) - (xs.length : Int) < 0
  · rw [decide_eq_true h]
    exact ⟨-1, rfl, fun h => by omega⟩
  · rw [decide_eq_false h, cond_false]
    have key := fun f step fin => whileM_run (σ := Int × Int) (τ := Int ⊕ Int) (f := f) (Post := fun _ => True) (fun i s => s.2 = (i : Int)) xs.length step fin xs.length 0 (1048576 - (xs.length : Int), (0 : Int)) F (by omega) hF rfl
    generalize hf : (fun (s17 : Int × Int) => _ : Int × Int → Option ((Int × Int) ⊕ (Int ⊕ Int))) = f
    obtain ⟨t, ht, _⟩ := key f (fun i s hi hs => by
      subst hf
      dsimp only
      obtain ⟨r, hr⟩ := szFile_ok F xs[i] s.1
      rw [hs, decide_eq_true (by omega), cond_true, getI_nat', List.getElem?_eq_getElem hi, Option.bind_some, hr, Option.bind_some]
      cases decide (r < 0)
      · exact .inl ⟨_, rfl, w64_succ' (by omega)⟩
      · exact .inr ⟨_, rfl, trivial⟩) (fun s hs => by
      subst hf
      dsimp only
      rw [hs, decide_eq_false (by omega)]
      exact ⟨_, rfl, trivial⟩)
    rw [ht]
    cases t <;> exact ⟨_, rfl, fun _ => by omega⟩
theorem toFileS_ok (F : Nat) (xs : List GFile) (hF : xs.length < F) (hl : xs.length ≤ 1048576) : M.laws_toFileS F xs = some xs := by
  unfold M.laws_toFileS makeL
  rw [if_pos ⟨by omega, by omega⟩, Option.bind_some]
  have key := fun f step fin => whileM_run (σ := Int × List GFile) (τ := List GFile) (f := f) (Post := fun t => t = xs) (fun i s => s.1 = (i : Int) ∧ s.2 = xs.take i ++ List.replicate (xs.length - i) (GFile.mk [] [])) xs.length step fin xs.length 0
    ((0 : Int), List.replicate ((xs.length : Int)).toNat (GFile.mk [] [])) F (by omega) hF ⟨rfl, by simp⟩
  generalize hf : (fun (s26 : Int × List GFile) => _ : Int × List GFile → Option ((Int × List GFile) ⊕ List GFile)) = f
  obtain ⟨t, ht, hp⟩ := key f (fun i s hi hs => by
      subst hf
      dsimp only
      obtain ⟨h1, h2⟩ := hs
      have hlen : s.2.length = xs.length := by rw [h2]; simp; omega
      rw [h1, decide_eq_true (by omega), cond_true, getI_nat', List.getElem?_eq_getElem hi, Option.bind_some]
      unfold M.laws_toFile
      rw [Option.bind_some, getI_nat', List.getElem?_eq_getElem (by omega), Option.bind_some]
      refine .inl ⟨_, rfl, w64_succ' (by omega), ?_⟩
      simp only [Int.toNat_natCast]
      rw [h2]
      apply List.ext_getElem?
      intro j
      rw [List.getElem?_set]
      simp only [List.length_append, List.length_take, List.length_replicate]
      by_cases hij : i = j
      · subst hij
        rw [if_pos rfl, if_pos (by omega), List.getElem?_append_left (by simp; omega), List.getElem?_take, if_pos (by omega), List.getElem?_eq_getElem hi]
      · rw [if_neg hij]
        rcases Nat.lt_or_ge j i with hlt | hge
        · rw [List.getElem?_append_left (by simp; omega), List.getElem?_append_left (by simp; omega), List.getElem?_take, List.getElem?_take, if_pos hlt, if_pos (by omega)]
        · rw [List.getElem?_append_right (by simp; omega), List.getElem?_append_right (by simp; omega), List.getElem?_replicate, List.getElem?_replicate]
          simp only [List.length_take]
          congr 1
          apply propext
          omega) (fun s hs => by
      subst hf
      dsimp only
      obtain ⟨h1, h2⟩ := hs
      rw [h1, decide_eq_false (by omega)]
      exact ⟨_, rfl, by rw [h2]; simp⟩)
  rw [ht, hp]; rfl
theorem eqFile_self (F : Nat) (f : GFile) : M.laws_eqFile F f f = some true := by
  unfold M.laws_eqFile
  simp
theorem eqFileS_self (F : Nat) (xs : List GFile) (hF : xs.length < F) (hl : xs.length ≤ 1048576) : M.laws_eqFileS F xs xs = some true := by
  unfold M.laws_eqFileS
  have key := fun f h h0 => all_while (p := fun _ => true) (xs := xs) (f := f) h h0 xs.length 0 F (by omega) hF
  rw [beq_self_eq_true, Bool.not_true, cond_false, show (0 : Int) = ((0 : Nat) : Int) from rfl, key _ (fun i x hx => ?_) ?_]
  · simp
  · rw [decide_eq_false (by omega)]; rfl
  · have hi := (List.getElem?_eq_some_iff.1 hx).1
    rw [decide_eq_true (by omega), cond_true, getI_nat', hx, Option.bind_some, Option.bind_some, eqFile_self, Option.bind_some, w64_succ' (by omega)]
    rfl
theorem names_bound : ∀ l : List GFile, ∃ B, ∀ f ∈ l, f.Name.length < B
  | [] => ⟨0, by simp⟩
  | f :: l => by
    obtain ⟨B, h⟩ := names_bound l
    refine ⟨B + f.Name.length + 1, fun g hg => ?_⟩
    rcases List.mem_cons.1 hg with rfl | hg
    · omega
    · have := h g hg; omega
/-- The law. -/
theorem law_disk (d : GDisk) (hl : d.Files.length ≤ maxLen) (hn : ∀ f ∈ d.Files, f.Name.length ≤ maxLen) : ∃ F, M.laws_FnExactDiskOk F d = some true := by
  obtain ⟨B, hB⟩ := names_bound d.Files
  refine ⟨d.Files.length + B + 1, ?_⟩
  generalize hF : d.Files.length + B + 1 = F
  obtain ⟨fs⟩ := d
  simp only at hl hn hB hF
  obtain ⟨r, hr, hb⟩ := szFileS_ok F fs (by omega) hl
  unfold M.laws_FnExactDiskOk M.laws_szDisk
  rw [hr, Option.bind_some]
  by_cases h : r < 0
  · rw [decide_eq_true h, cond_true, Option.bind_some]; rfl
  · rw [decide_eq_false h, cond_false, Option.bind_some, decide_eq_false h, cond_false]
    have hle := hb (by omega)
    have ht : M.laws_toDisk F ⟨fs⟩ = some ⟨fs⟩ := by
      unfold M.laws_toDisk
      rw [toFileS_ok F fs (by omega) hle]; rfl
    have he : M.laws_eqDisk F ⟨fs⟩ ⟨fs⟩ = some true := by
      unfold M.laws_eqDisk
      rw [eqFileS_self F fs (by omega) hle]; rfl
    rw [ht, Option.bind_some, spec_disk F ⟨fs⟩ (by simp only; omega) (by simp only; omega) (fun f hf => ⟨by have := hB f hf; omega, hn f hf⟩), Option.bind_some, Option.bind_some, impl_disk F ⟨fs⟩ (by simp only; omega), Option.bind_some,
      beq_self_eq_true, Bool.not_true, cond_false, Option.bind_some, he, Option.bind_some]
    rfl
end Go.Fk
