/-
  'FnScorePlaceCardSaid' is proved: whatever byte slices are handed in, 'laws.FnScorePlace' returns true, they read as they did, and so do the listed variables. No conditions but the card's own.
-/
import Derived.Test.YtmkhlppjphodfaaGreatDoorRows
import Derived.Test.YtmkhlppjphodfaaGreatDoorCards
import Derived.Test.YtmkhlppjphodfaaGreatDoorTie
import Derived.Test.YtmkhlppjphodfaaGreatDoorJoinScorePlaceL
import Derived.Test.YtmkhlppjphodfaaGreatDoorJoinScorePlaceC
import Derived.Test.YtmkhlppjphodfaaGreatDoorJoinScorePlaceE
namespace Go.Proofs.YtmkhlppjphodfaaGreatDoor.fnScorePlace
open Go.ChangeShapes Go.WideShapes Go.ChangeAt Go.RowKit Go.WideElems Go.Fk
theorem b4y : Rows.fnScorePlaceRow.holds Tryz.pinned (OpenSpec.ofChange Rows.fnScorePlaceSpec) :=
 OpenClaim.holds_of_wide 4 Tryz.f4 rfl rfl rfl rfl rfl rfl rfl ⟨rfl, rfl, rfl, rfl, rfl⟩ rfl rfl rfl rfl rfl (by kernel_rfl) Tryz.func4 b2I
  (of_decide_eq_true (by kernel_rfl)) (by unfold Func.isWrapper; first | (rw [if_pos (by decide +kernel)]; kernel_rfl) | (rw [if_neg (by decide +kernel)]; exact ⟨rfl, rfl⟩))
  (fun os started H enc _ => b5J os started H enc)
theorem proved : Rows.FnScorePlaceCardSaid :=
 Claim7.holds_tied_plain_at .later [] [.data, .mapped] true (true, "564db4b15b60075e80879e2c33e26e602a92e05e576a1f7bb43f8547914554ee") false
  b4y (fun _ h => by cases h) fW (fun _ h => by cases h) fnScorePlace_row_tie rfl ⟨rfl, rfl⟩ fM rfl
  (fun f fn hf hfn => by
   obtain rfl : f = 4 := Option.some.inj (fN.symm.trans hf) |>.symm
   obtain rfl : fn = Tryz.f4 := (Option.some.inj (Tryz.func4.symm.trans hfn)).symm
   exact ⟨fL, fun j t ht => by
    rw [Tryz.params4] at ht
    have hm : t ∈ [22, 22] := by simpa using Array.mem_of_getElem? ht
    exact (show Tryz.prog.wantsStandIn t = false by simpa using List.all_eq_true.1 fS t hm)⟩)
  fG
end Go.Proofs.YtmkhlppjphodfaaGreatDoor.fnScorePlace
