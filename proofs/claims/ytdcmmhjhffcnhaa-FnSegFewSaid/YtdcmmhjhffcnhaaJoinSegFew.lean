/-
  'FnSegFewSaid' is proved: whatever byte slices are handed in, 'laws.FnSegFew' returns true, and they read as they did. No conditions.
-/
import Derived.Test.YtdcmmhjhffcnhaaRows
import Derived.Test.YtdcmmhjhffcnhaaCoreL
import Derived.Test.YtdcmmhjhffcnhaaLawSegFew
import Derived.Test.YtdcmmhjhffcnhaaWalkA4
import Derived.JoinedOf
import Derived.JoinedAt
namespace Go.Proofs.Ytdcmmhjhffcnhaa.fnSegFew
open Go.ChangeShapes Go.WideShapes Go.ChangeAt Go.RowKit Go.Fk

theorem own : ownKnob Try.prog.godebug = none := by kernel_rfl
theorem cells5 : Try.prog.cellsOf 5 = 1 := by kernel_rfl

set_option maxRecDepth 100000 in
theorem lifted (os : Os) (started : os.Started) (H : Type) (enc : TypeId × Value → H) :
    ReturnsInHanded {} Try.checked os 6 .any (Rows.fnSegFewSpec.pre6 enc Try.prog Try.f6 Rows.fnSegFewRow.domain false) (Rows.fnSegFewSpec.post enc Try.prog Try.f6 false true false false) := by
  refine returnsInHanded_of_change (C := Try.checked) own started (by kernel_rfl) Try.func6
    (ChangeSpec.witness6 (enc := enc) (C := Try.checked) false ⟨#[], #[.slice none 0 0, .slice none 0 0], []⟩ 8 (by kernel_rfl) (by kernel_rfl) (by kernel_rfl) (by kernel_rfl)) ?_
  intro W base args ds gs before hval0 hW _ _
  have hval : ∀ (j : Nat) t v, Try.f6.params[j]? = some t → args[j]? = some v → Value.okWide Try.prog W .any base t v := hval0
  have hW' := hW
  obtain ⟨p, q, hA0, hV, rfl, _, _⟩ := hW
  have hA : DataW.TrodAll enc Try.prog W 0 (fun _ => true) true Try.f6.params.toList args.toList ds p := hA0
  rw [Try.params6] at hA hval
  obtain ⟨v0, vs0, d0, ds0, p0, q0, hargs, rfl, rfl, h0, r0⟩ := trodAll_cons hA
  obtain ⟨v1, vs1, d1, ds1, p1, q1, rfl, rfl, rfl, h1, r1⟩ := trodAll_cons r0
  obtain ⟨rfl, rfl, rfl⟩ := trodAll_nil r1
  obtain rfl : args = #[v0, v1] := by cases args; simp_all
  obtain ⟨rfl, rfl⟩ := trodVars_none hV
  obtain ⟨a0, n0, c0, xs0, rfl, hs0, k0⟩ := open_bytesAt Try.underlying22 Try.underlying5 cells5 (hval 0 22 v0 rfl rfl) h0
  obtain ⟨a1, n1, c1, xs1, rfl, hs1, k1⟩ := open_bytesAt Try.underlying22 Try.underlying5 cells5 (hval 1 22 v1 rfl rfl) h1
  clear hA0 hval0
  simp only [List.append_nil] at hW'
  obtain ⟨F, hF⟩ := law_segFew xs0 xs1
  refine (ok_laws_FnSegFew F (start_all W) hs0 hs1 hF).mono fun e W' ⟨K', he, hS⟩ => ?_
  subst he
  have hB := hS.below
  exact ⟨_, rfl, post_of_below (pa := (p0 ++ (p1 ++ []))) (pv := []) hW' (fun _ _ _ => trodAll_mk1 (shut_bool Try.underlying4 _))
    (fun sp hsp => trodAll_cons_mk (k0 W' hB sp fun p hp => hsp p (by simp [hp])) (trodAll_cons_mk (k1 W' hB sp fun p hp => hsp p (by simp [hp])) trodAll_mk0)) (fun _ _ => rfl) (by simp) hB
    (ok_one (by kernel_rfl) rfl (okWide_bool_mk Try.underlying4 _))⟩

theorem over : Rows.fnSegFewRow.holds Try.pinned (OpenSpec.ofChange Rows.fnSegFewSpec) :=
  OpenClaim.holds_of_wide 6 Try.f6 rfl rfl rfl rfl rfl rfl rfl ⟨rfl, rfl, rfl, rfl, rfl⟩ rfl rfl rfl rfl rfl (by kernel_rfl) Try.func6 (by kernel_rfl)
    (of_decide_eq_true (by kernel_rfl)) (by unfold Func.isWrapper; first | (rw [if_pos (by decide +kernel)]; kernel_rfl) | (rw [if_neg (by decide +kernel)]; exact ⟨rfl, rfl⟩))
    (fun os started H enc _ => lifted os started H enc)

theorem proved : Rows.FnSegFewSaid := over
end Go.Proofs.Ytdcmmhjhffcnhaa.fnSegFew
