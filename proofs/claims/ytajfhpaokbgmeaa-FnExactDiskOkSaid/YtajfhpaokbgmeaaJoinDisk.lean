/-
  'FnExactDiskOkSaid' is proved: whatever disk is handed in, 'laws.FnExactDiskOk' returns true, and it reads as it did. No conditions.
-/
import Derived.Test.YtajfhpaokbgmeaaRows
import Derived.Test.YtajfhpaokbgmeaaCoreM
import Derived.Test.YtajfhpaokbgmeaaOpens
import Derived.Test.YtajfhpaokbgmeaaLawDisk
import Derived.Test.YtajfhpaokbgmeaaWalkA2
namespace Go.Proofs.Ytajfhpaokbgmeaa.fnExactDiskOk
open Go.ChangeShapes Go.WideShapes Go.ChangeAt Go.RowKit Go.Fk

theorem own : ownKnob Try.prog.godebug = none := by kernel_rfl
theorem laid : laidOutB Try.prog = true := by kernel_rfl

set_option maxRecDepth 100000 in
theorem lifted (os : Os) (started : os.Started) (H : Type) (enc : TypeId × Value → H) :
    ReturnsInHanded {} Try.checked os 3 .any (Rows.fnExactDiskOkSpec.pre6 enc Try.prog Try.f3 Rows.fnExactDiskOkRow.domain false) (Rows.fnExactDiskOkSpec.post enc Try.prog Try.f3 false true false false) := by
  refine returnsInHanded_of_change (C := Try.checked) own started (by kernel_rfl) Try.func3
    (ChangeSpec.witness6 (enc := enc) (C := Try.checked) false ⟨#[], #[.agg #[.slice none 0 0]], []⟩ 8 (by kernel_rfl) (by kernel_rfl) (by kernel_rfl) (by kernel_rfl)) ?_
  intro W base args ds gs before hval0 hW _ _
  have hval : ∀ (j : Nat) t v, Try.f3.params[j]? = some t → args[j]? = some v → Value.okWide Try.prog W .any base t v := hval0
  have hW' := hW
  obtain ⟨p, q, hA0, hV, rfl, _, _⟩ := hW
  have hA : DataW.TrodAll enc Try.prog W 0 (fun _ => true) true Try.f3.params.toList args.toList ds p := hA0
  rw [Try.params3] at hA hval
  obtain ⟨v0, vs0, d0, ds0, p0, q0, hargs, rfl, rfl, h0, r0⟩ := trodAll_cons hA
  obtain ⟨rfl, rfl, rfl⟩ := trodAll_nil r0
  obtain rfl : args = #[v0] := by cases args; simp_all
  obtain ⟨rfl, rfl⟩ := trodVars_none hV
  obtain ⟨cs, rfl, hsz⟩ := okWide_struct Try.underlying24 (hval 0 24 v0 rfl rfl)
  obtain ⟨x, a, n, c, hv, hs⟩ := open_arg (opens_t24 (W := W) (enc := enc)) (fun u h1 h2 => by
    obtain ⟨x, a, n, c, rfl, _⟩ := h2
    have h3 : [Value.slice a n c] = cs.toList := by simpa [Value.cells] using h1
    exact congrArg Value.agg (by rw [← Array.toArray_toList (xs := cs), ← h3])) h0
  clear hA0 hval0
  simp only [List.append_nil] at hW'
  obtain ⟨F, hF⟩ := law_disk x hs.max (fun f hf => by
    obtain ⟨i, hi⟩ := List.getElem?_of_mem hf
    have hlt := (List.getElem?_eq_some_iff.1 hi).1
    obtain ⟨e1, e2, _, e4⟩ := hs
    obtain ⟨b, o, _, h5⟩ := e4 (by omega)
    obtain ⟨u, hu, _⟩ := h5 i f hi
    obtain ⟨_, h6, _⟩ := hu
    exact h6)
  have hblt : ∀ y ∈ p0, y.block < W.heap.size := fun y hy => hW'.lt y (by simpa using hy)
  have hlaw := ok_laws_FnExactDiskOk F (start_all W) hs hF
  injection hv with hv
  subst hv
  refine hlaw.mono fun e W' ⟨K', he, hS⟩ => ?_
  subst he
  have hB := hS.below
  exact ⟨_, rfl, post_of_below (pa := p0 ++ []) (pv := []) hW' (fun _ _ _ => trodAll_mk1 (shut_bool Try.underlying4 _))
    (fun sp hsp => trodAll_cons_mk (WideElems.Trod_stays laid (by kernel_rfl) (of_decide_eq_true (by kernel_rfl)) h0 (fun y hy => hB.same (hblt y hy)) (fun y hy => hsp y (by simpa using hy))) trodAll_mk0) (fun _ _ => rfl) (by simp) hB
    (ok_one (by kernel_rfl) rfl (okWide_bool_mk Try.underlying4 _))⟩

theorem over : Rows.fnExactDiskOkRow.holds Try.pinned (OpenSpec.ofChange Rows.fnExactDiskOkSpec) :=
  OpenClaim.holds_of_wide 3 Try.f3 rfl rfl rfl rfl rfl rfl rfl ⟨rfl, rfl, rfl, rfl, rfl⟩ rfl rfl rfl rfl rfl (by kernel_rfl) Try.func3 (by kernel_rfl)
    (of_decide_eq_true (by kernel_rfl)) (by unfold Func.isWrapper; first | (rw [if_pos (by decide +kernel)]; kernel_rfl) | (rw [if_neg (by decide +kernel)]; exact ⟨rfl, rfl⟩))
    (fun os started H enc _ => lifted os started H enc)

theorem proved : Rows.FnExactDiskOkSaid := over
end Go.Proofs.Ytajfhpaokbgmeaa.fnExactDiskOk
