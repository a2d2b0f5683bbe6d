/-
  'FnShardFacetSaid' is proved: whatever byte slices are handed in, 'laws.FnShardFacet' returns true, and they read as they did. No conditions.
-/
import Derived.Test.YtoeajphlomankaaRows
import Derived.Test.YtoeajphlomankaaCoreL
import Derived.Test.YtoeajphlomankaaLawShardFacet
import Derived.Test.YtoeajphlomankaaWalkA2
import Derived.JoinedOf
import Derived.JoinedAt
namespace Go.Proofs.Ytoeajphlomankaa.fnShardFacet
open Go.ChangeShapes Go.WideShapes Go.ChangeAt Go.RowKit Go.Fk

theorem own : ownKnob Try.prog.godebug = none := by kernel_rfl
theorem cells5 : Try.prog.cellsOf 5 = 1 := by kernel_rfl

set_option maxRecDepth 100000 in
theorem lifted (os : Os) (started : os.Started) (H : Type) (enc : TypeId × Value → H) :
    ReturnsInHanded {} Try.checked os 3 .any (Rows.fnShardFacetSpec.pre6 enc Try.prog Try.f3 Rows.fnShardFacetRow.domain false) (Rows.fnShardFacetSpec.post enc Try.prog Try.f3 false true false false) := by
  refine returnsInHanded_of_change (C := Try.checked) own started (by kernel_rfl) Try.func3
    (ChangeSpec.witness6 (enc := enc) (C := Try.checked) false ⟨#[], #[.slice none 0 0], []⟩ 8 (by kernel_rfl) (by kernel_rfl) (by kernel_rfl) (by kernel_rfl)) ?_
  intro W base args ds gs before hval0 hW _ _
  have hval : ∀ (j : Nat) t v, Try.f3.params[j]? = some t → args[j]? = some v → Value.okWide Try.prog W .any base t v := hval0
  have hW' := hW
  obtain ⟨p, q, hA0, hV, rfl, _, _⟩ := hW
  have hA : DataW.TrodAll enc Try.prog W 0 (fun _ => true) true Try.f3.params.toList args.toList ds p := hA0
  rw [Try.params3] at hA hval
  obtain ⟨v0, vs0, d0, ds0, p0, q0, hargs, rfl, rfl, h0, r0⟩ := trodAll_cons hA
  obtain ⟨rfl, rfl, rfl⟩ := trodAll_nil r0
  obtain rfl : args = #[v0] := by cases args; simp_all
  obtain ⟨rfl, rfl⟩ := trodVars_none hV
  obtain ⟨a0, n0, c0, xs0, rfl, hs0, k0⟩ := open_bytesAt Try.underlying22 Try.underlying5 cells5 (hval 0 22 v0 rfl rfl) h0
  clear hA0 hval0
  simp only [List.append_nil] at hW'
  obtain ⟨F, hF⟩ := law_shardFacet xs0
  refine (ok_laws_FnShardFacet F (start_all W) hs0 hF).mono fun e W' ⟨K', he, hS⟩ => ?_
  subst he
  have hB := hS.below
  exact ⟨_, rfl, post_of_below (pa := (p0 ++ [])) (pv := []) hW' (fun _ _ _ => trodAll_mk1 (shut_bool Try.underlying4 _))
    (fun sp hsp => trodAll_cons_mk (k0 W' hB sp fun p hp => hsp p (by simp [hp])) trodAll_mk0) (fun _ _ => rfl) (by simp) hB
    (ok_one (by kernel_rfl) rfl (okWide_bool_mk Try.underlying4 _))⟩

theorem over : Rows.fnShardFacetRow.holds Try.pinned (OpenSpec.ofChange Rows.fnShardFacetSpec) :=
  OpenClaim.holds_of_wide 3 Try.f3 rfl rfl rfl rfl rfl rfl rfl ⟨rfl, rfl, rfl, rfl, rfl⟩ rfl rfl rfl rfl rfl (by kernel_rfl) Try.func3 (by kernel_rfl)
    (of_decide_eq_true (by kernel_rfl)) (by unfold Func.isWrapper; first | (rw [if_pos (by decide +kernel)]; kernel_rfl) | (rw [if_neg (by decide +kernel)]; exact ⟨rfl, rfl⟩))
    (fun os started H enc _ => lifted os started H enc)

theorem proved : Rows.FnShardFacetSaid := over
end Go.Proofs.Ytoeajphlomankaa.fnShardFacet
