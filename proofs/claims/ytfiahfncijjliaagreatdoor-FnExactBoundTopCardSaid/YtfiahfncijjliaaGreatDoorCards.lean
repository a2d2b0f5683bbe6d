/-
  DERIVED. GIVEN WITH THE SEED: THE CARDS: each row of YtfiahfncijjliaaGreatDoorRows.lean that lists a variable, with what it lists TIED to the program's text (the seventh form; the later family's looks); each row that meets fmt, with fmt's text TOLD by the authors' own Lean function (tested against real Go, not proved from fmt's source: count such statements apart). THE CARD IS WHAT COUNTS. Prove the row's statement (the work); the ties are given (YtfiahfncijjliaaGreatDoorTie.lean); close each card by the builder's one call (the guide's Derived/Test/ToyasCard.lean, 'card_holds'). Laid BY PROGRAM, IN A SANDBOX (cutbox-door.mjs). By AI agents, Wed Nov 11 2026. No macro, syntax, notation, axiom, sorry.
-/
import Derived.Test.YtfiahfncijjliaaGreatDoorRows
import GoSem.ClaimSeven
namespace Go.Proofs.YtfiahfncijjliaaGreatDoor
namespace Rows

/-- THE TIED CARD OF 'laws.FnExactBoundOf'. -/
def fnExactBoundOfCard : Claim7 := { stood := { row := fnExactBoundOfRow, standIns := [], harness := (true, "cd562219c43a8104556cecc5be617d3b7aac99f6a6b957aaf5f70139d340360a"), looks := false }, kinds := [], alts := [], laidByText := true, laidKinds := [.data], laidTests := true, laidLooks := .later }
def FnExactBoundOfCardSaid : Prop := Claim7.holds Tryz.pinned (.plain (OpenSpec.ofChange fnExactBoundOfSpec)) fnExactBoundOfCard

/-- THE TIED CARD OF 'laws.FnExactBoundTop'. -/
def fnExactBoundTopCard : Claim7 := { stood := { row := fnExactBoundTopRow, standIns := [], harness := (true, "cd562219c43a8104556cecc5be617d3b7aac99f6a6b957aaf5f70139d340360a"), looks := false }, kinds := [], alts := [], laidByText := true, laidKinds := [.data], laidTests := true, laidLooks := .later }
def FnExactBoundTopCardSaid : Prop := Claim7.holds Tryz.pinned (.plain (OpenSpec.ofChange fnExactBoundTopSpec)) fnExactBoundTopCard

/-- THE SECOND FORM's CARD OF 'laws.FnExactBoundOf'. -/
def fnExactBoundOfUptoCard : Claim7 := { stood := { row := fnExactBoundOfUptoRow, standIns := [], harness := (true, "cd562219c43a8104556cecc5be617d3b7aac99f6a6b957aaf5f70139d340360a"), looks := false }, kinds := [], alts := [], laidByText := true, laidKinds := [.data], laidTests := true, laidLooks := .later }
def FnExactBoundOfUptoCardSaid : Prop := Claim7.holds Tryz.pinned (.plain (OpenSpec.upto fnExactBoundOfSpec)) fnExactBoundOfUptoCard

/-- THE SECOND FORM's CARD OF 'laws.FnExactBoundTop'. -/
def fnExactBoundTopUptoCard : Claim7 := { stood := { row := fnExactBoundTopUptoRow, standIns := [], harness := (true, "cd562219c43a8104556cecc5be617d3b7aac99f6a6b957aaf5f70139d340360a"), looks := false }, kinds := [], alts := [], laidByText := true, laidKinds := [.data], laidTests := true, laidLooks := .later }
def FnExactBoundTopUptoCardSaid : Prop := Claim7.holds Tryz.pinned (.plain (OpenSpec.upto fnExactBoundTopSpec)) fnExactBoundTopUptoCard
end Rows
end Go.Proofs.YtfiahfncijjliaaGreatDoor
