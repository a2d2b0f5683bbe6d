/-
  'FnExactDawgOkSaid' is proved: whatever arguments are handed in, 'laws.FnExactDawgOk' returns true, and they read as they did. No conditions.
-/
import Derived.Test.YtdopcpaapniioaaRows
import Derived.Test.YtdopcpaapniioaaCoreM
import Derived.Test.YtdopcpaapniioaaOpens
import Derived.Test.YtdopcpaapniioaaLawStates
import Derived.Test.YtdopcpaapniioaaWalkA7
namespace Go.Proofs.Ytdopcpaapniioaa.fnExactDawgOk
open Go.ChangeShapes Go.WideShapes Go.ChangeAt Go.RowKit Go.Fk

theorem own : ownKnob Try.prog.godebug = none := by kernel_rfl
theorem laid : laidOutB Try.prog = true := by kernel_rfl

set_option maxRecDepth 100000 in
theorem lifted (os : Os) (started : os.Started) (H : Type) (enc : TypeId × Value → H) :
    ReturnsInHanded {} Try.checked os 9 .any (Rows.fnExactDawgOkSpec.pre6 enc Try.prog Try.f9 Rows.fnExactDawgOkRow.domain false) (Rows.fnExactDawgOkSpec.post enc Try.prog Try.f9 false true false false) := by
  refine returnsInHanded_of_change (C := Try.checked) own started (by kernel_rfl) Try.func9
    (ChangeSpec.witness6 (enc := enc) (C := Try.checked) false ⟨#[], #[.slice none 0 0], []⟩ 8 (by kernel_rfl) (by kernel_rfl) (by kernel_rfl) (by kernel_rfl)) ?_
  intro W base args ds gs before hval0 hW _ _
  have hval : ∀ (j : Nat) t v, Try.f9.params[j]? = some t → args[j]? = some v → Value.okWide Try.prog W .any base t v := hval0
  have hW' := hW
  obtain ⟨p, q, hA0, hV, rfl, _, _⟩ := hW
  have hA : DataW.TrodAll enc Try.prog W 0 (fun _ => true) true Try.f9.params.toList args.toList ds p := hA0
  rw [Try.params9] at hA hval
  obtain ⟨v0, vs0, d0, ds0, p0, q0, hargs, rfl, rfl, h0, r0⟩ := trodAll_cons hA
  obtain ⟨rfl, rfl, rfl⟩ := trodAll_nil r0
  obtain rfl : args = #[v0] := by cases args; simp_all
  obtain ⟨rfl, rfl⟩ := trodVars_none hV
  obtain ⟨a0, n0, c0, rfl⟩ := okWide_slice Try.underlying51 (hval 0 51 v0 rfl rfl)
  obtain ⟨x0, a0', n0', c0', hv0, hs0⟩ := open_arg (opens_t51 (W := W) (enc := enc)) (fun u h1 h2 => by
    obtain ⟨x, a, n, c, rfl, _⟩ := h2
    simpa [Value.cells] using h1) h0
  injection hv0 with e1 e2 e3
  subst e1 e2 e3
  clear hA0 hval0
  simp only [List.append_nil] at hW'
  obtain ⟨F, hF⟩ := law_exactOk x0 hs0.max (arcs_max hs0)
  have hb0 : ∀ y ∈ p0, y.block < W.heap.size := fun y hy => hW'.lt y (by simp [hy])
  refine (ok_laws_FnExactDawgOk F (start_all W) hs0 hF).mono fun e W' ⟨K', he, hS⟩ => ?_
  subst he
  have hB := hS.below
  exact ⟨_, rfl, post_of_below (pa := (p0 ++ [])) (pv := []) hW' (fun _ _ _ => trodAll_mk1 (shut_bool Try.underlying4 _))
    (fun sp hsp => trodAll_cons_mk (WideElems.Trod_stays laid (by kernel_rfl) (of_decide_eq_true (by kernel_rfl)) h0 (fun y hy => hB.same (hb0 y hy)) (fun y hy => hsp y (by simp [hy]))) trodAll_mk0) (fun _ _ => rfl) (by simp) hB
    (ok_one (by kernel_rfl) rfl (okWide_bool_mk Try.underlying4 _))⟩

theorem over : Rows.fnExactDawgOkRow.holds Try.pinned (OpenSpec.ofChange Rows.fnExactDawgOkSpec) :=
  OpenClaim.holds_of_wide 9 Try.f9 rfl rfl rfl rfl rfl rfl rfl ⟨rfl, rfl, rfl, rfl, rfl⟩ rfl rfl rfl rfl rfl (by kernel_rfl) Try.func9 (by kernel_rfl)
    (of_decide_eq_true (by kernel_rfl)) (by unfold Func.isWrapper; first | (rw [if_pos (by decide +kernel)]; kernel_rfl) | (rw [if_neg (by decide +kernel)]; exact ⟨rfl, rfl⟩))
    (fun os started H enc _ => lifted os started H enc)

theorem proved : Rows.FnExactDawgOkSaid := over
end Go.Proofs.Ytdopcpaapniioaa.fnExactDawgOk
