/-
  DERIVED. GIVEN WITH THE SEED: THE PROGRAM's TIES (one call each: nine closed facts by the kernel) AND EACH ROW's TIE, after the 31st guide's Derived/Test/Toyas{Tie, Card}.lean. No idea stands in it: it is a product of the set-up. Laid BY PROGRAM, IN A SANDBOX (cutbox-door.mjs). By AI agents, Wed Nov 11 2026. No macro, syntax, notation, axiom, sorry.
-/
import Derived.Test.YtoeajphlomankaaGreatDoorRows
import Derived.LaidByTextLater
import Derived.SevenTiedAt
import Derived.LaidSub
import Derived.LaidOnce
namespace Go.Proofs.YtoeajphlomankaaGreatDoor
open Go
set_option maxRecDepth 100000
theorem seatTie1 : Tryz.prog.laidByTextLater [("loop.example/fossick/impl.none", Rows.laid_loop_example_fossick_impl_none), ("loop.example/fossick/impl.shapes", Rows.laid_loop_example_fossick_impl_shapes)] [.data, .mapped] true :=
  Program.laidByTextLater_by_one 79 8 3 (by kernel_rfl) (by kernel_rfl) (by kernel_rfl) (by kernel_rfl) (by kernel_rfl) (by kernel_rfl) (fun _ _ => by kernel_rfl)
theorem noOwnUnsafe : Tryz.pinned.checked.prog.headLifts.contains "ownunsafe" = false := by kernel_rfl
theorem tie : Tryz.prog.laidByTextLater [("loop.example/fossick/impl.none", Rows.laid_loop_example_fossick_impl_none)] [.data] true :=
  Program.laidByTextLater.sub seatTie1 ["loop.example/fossick/impl.none"] (by kernel_rfl) (by kernel_rfl)
theorem fnBoundOf_row_tie : Rows.fnBoundOfRow.laidByTextAt .later Tryz.pinned [.data] true :=
  OpenClaim.laidByTextAt_later rfl rfl tie noOwnUnsafe
theorem fnBoundLooks_row_tie : Rows.fnBoundLooksRow.laidByTextAt .later Tryz.pinned [.data] true :=
  OpenClaim.laidByTextAt_later rfl rfl tie noOwnUnsafe
theorem tie2 : Tryz.prog.laidByTextLater [("loop.example/fossick/impl.none", Rows.laid_loop_example_fossick_impl_none), ("loop.example/fossick/impl.shapes", Rows.laid_loop_example_fossick_impl_shapes)] [.data, .mapped] true :=
  Program.laidByTextLater.sub seatTie1 ["loop.example/fossick/impl.none", "loop.example/fossick/impl.shapes"] (by kernel_rfl) (by kernel_rfl)
theorem fnIndexNew_row_tie : Rows.fnIndexNewRow.laidByTextAt .later Tryz.pinned [.data, .mapped] true :=
  OpenClaim.laidByTextAt_later rfl rfl tie2 noOwnUnsafe
theorem fnScorePlace_row_tie : Rows.fnScorePlaceRow.laidByTextAt .later Tryz.pinned [.data, .mapped] true :=
  OpenClaim.laidByTextAt_later rfl rfl tie2 noOwnUnsafe
theorem fnBoundTop_row_tie : Rows.fnBoundTopRow.laidByTextAt .later Tryz.pinned [.data, .mapped] true :=
  OpenClaim.laidByTextAt_later rfl rfl tie2 noOwnUnsafe
theorem fnBoundOfUpto_row_tie : Rows.fnBoundOfUptoRow.laidByTextAt .later Tryz.pinned [.data] true :=
  OpenClaim.laidByTextAt_later rfl rfl tie noOwnUnsafe
theorem fnIndexNewUpto_row_tie : Rows.fnIndexNewUptoRow.laidByTextAt .later Tryz.pinned [.data, .mapped] true :=
  OpenClaim.laidByTextAt_later rfl rfl tie2 noOwnUnsafe
theorem fnBoundLooksUpto_row_tie : Rows.fnBoundLooksUptoRow.laidByTextAt .later Tryz.pinned [.data] true :=
  OpenClaim.laidByTextAt_later rfl rfl tie noOwnUnsafe
theorem fnScorePlaceUpto_row_tie : Rows.fnScorePlaceUptoRow.laidByTextAt .later Tryz.pinned [.data, .mapped] true :=
  OpenClaim.laidByTextAt_later rfl rfl tie2 noOwnUnsafe
theorem fnBoundTopUpto_row_tie : Rows.fnBoundTopUptoRow.laidByTextAt .later Tryz.pinned [.data, .mapped] true :=
  OpenClaim.laidByTextAt_later rfl rfl tie2 noOwnUnsafe
end Go.Proofs.YtoeajphlomankaaGreatDoor
