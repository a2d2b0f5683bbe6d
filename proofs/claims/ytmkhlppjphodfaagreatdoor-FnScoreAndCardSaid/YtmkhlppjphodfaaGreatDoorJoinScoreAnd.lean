/-
  'FnScoreAndCardSaid' is proved: whatever byte slices are handed in, 'laws.FnScoreAnd' returns true, they read as they did, and so do the listed variables. No conditions but the card's own.
-/
import Derived.Test.YtmkhlppjphodfaaGreatDoorRows
import Derived.Test.YtmkhlppjphodfaaGreatDoorCards
import Derived.Test.YtmkhlppjphodfaaGreatDoorTie
import Derived.Test.YtmkhlppjphodfaaGreatDoorJoinScoreAndL
import Derived.Test.YtmkhlppjphodfaaGreatDoorJoinScoreAndC
import Derived.Test.YtmkhlppjphodfaaGreatDoorJoinScoreAndE
namespace Go.Proofs.YtmkhlppjphodfaaGreatDoor.fnScoreAnd
open Go.ChangeShapes Go.WideShapes Go.ChangeAt Go.RowKit Go.WideElems Go.Fk
theorem b4y : Rows.fnScoreAndRow.holds Tryz.pinned (OpenSpec.ofChange Rows.fnScoreAndSpec) :=
 OpenClaim.holds_of_wide 7 Tryz.f7 rfl rfl rfl rfl rfl rfl rfl ⟨rfl, rfl, rfl, rfl, rfl⟩ rfl rfl rfl rfl rfl (by kernel_rfl) Tryz.func7 b2I
  (of_decide_eq_true (by kernel_rfl)) (by unfold Func.isWrapper; first | (rw [if_pos (by decide +kernel)]; kernel_rfl) | (rw [if_neg (by decide +kernel)]; exact ⟨rfl, rfl⟩))
  (fun os started H enc _ => b5J os started H enc)
theorem proved : Rows.FnScoreAndCardSaid :=
 Claim7.holds_tied_plain_at .later [] [.data, .mapped] true (true, "564db4b15b60075e80879e2c33e26e602a92e05e576a1f7bb43f8547914554ee") false
  b4y (fun _ h => by cases h) fW (fun _ h => by cases h) fnScoreAnd_row_tie rfl ⟨rfl, rfl⟩ fM rfl
  (fun f fn hf hfn => by
   obtain rfl : f = 7 := Option.some.inj (fN.symm.trans hf) |>.symm
   obtain rfl : fn = Tryz.f7 := (Option.some.inj (Tryz.func7.symm.trans hfn)).symm
   exact ⟨fL, fun j t ht => by
    rw [Tryz.params7] at ht
    have hm : t ∈ [22, 22] := by simpa using Array.mem_of_getElem? ht
    exact (show Tryz.prog.wantsStandIn t = false by simpa using List.all_eq_true.1 fS t hm)⟩)
  fG
end Go.Proofs.YtmkhlppjphodfaaGreatDoor.fnScoreAnd
