/-
  DERIVED. GIVEN WITH THE SEED: THE CARDS: each row of YtpdfkjjmcnhakaaGreatDoorRows.lean that lists a variable, with what it lists TIED to the program's text (the seventh form; the later family's looks); each row that meets fmt, with fmt's text TOLD by the authors' own Lean function (tested against real Go, not proved from fmt's source: count such statements apart). THE CARD IS WHAT COUNTS. Prove the row's statement (the work); the ties are given (YtpdfkjjmcnhakaaGreatDoorTie.lean); close each card by the builder's one call (the guide's Derived/Test/ToyasCard.lean, 'card_holds'). Laid BY PROGRAM, IN A SANDBOX (cutbox-door.mjs). By AI agents, Wed Nov 11 2026. No macro, syntax, notation, axiom, sorry.
-/
import Derived.Test.YtpdfkjjmcnhakaaGreatDoorRows
import GoSem.ClaimSeven
namespace Go.Proofs.YtpdfkjjmcnhakaaGreatDoor
namespace Rows

/-- THE TIED CARD OF 'laws.FnExactLivePut'. -/
def fnExactLivePutCard : Claim7 := { stood := { row := fnExactLivePutRow, standIns := [], harness := (true, "51286da14f3dff517baf43c07e881b93bf88a88cb747d3fbb6382aa75e795b74"), looks := false }, kinds := [], alts := [], laidByText := true, laidKinds := [.data, .data, .data], laidTests := true, laidLooks := .later }
def FnExactLivePutCardSaid : Prop := Claim7.holds Tryz.pinned (.plain (OpenSpec.ofChange fnExactLivePutSpec)) fnExactLivePutCard

/-- THE TIED CARD OF 'laws.FnSnipFound'. -/
def fnSnipFoundCard : Claim7 := { stood := { row := fnSnipFoundRow, standIns := [], harness := (true, "51286da14f3dff517baf43c07e881b93bf88a88cb747d3fbb6382aa75e795b74"), looks := false }, kinds := [], alts := [], laidByText := true, laidKinds := [.data, .mapped], laidTests := true, laidLooks := .later }
def FnSnipFoundCardSaid : Prop := Claim7.holds Tryz.pinned (.plain (OpenSpec.ofChange fnSnipFoundSpec)) fnSnipFoundCard

/-- THE SECOND FORM's CARD OF 'laws.FnExactLivePut'. -/
def fnExactLivePutUptoCard : Claim7 := { stood := { row := fnExactLivePutUptoRow, standIns := [], harness := (true, "51286da14f3dff517baf43c07e881b93bf88a88cb747d3fbb6382aa75e795b74"), looks := false }, kinds := [], alts := [], laidByText := true, laidKinds := [.data, .data, .data], laidTests := true, laidLooks := .later }
def FnExactLivePutUptoCardSaid : Prop := Claim7.holds Tryz.pinned (.plain (OpenSpec.upto fnExactLivePutSpec)) fnExactLivePutUptoCard

/-- THE SECOND FORM's CARD OF 'laws.FnSnipFound'. -/
def fnSnipFoundUptoCard : Claim7 := { stood := { row := fnSnipFoundUptoRow, standIns := [], harness := (true, "51286da14f3dff517baf43c07e881b93bf88a88cb747d3fbb6382aa75e795b74"), looks := false }, kinds := [], alts := [], laidByText := true, laidKinds := [.data, .mapped], laidTests := true, laidLooks := .later }
def FnSnipFoundUptoCardSaid : Prop := Claim7.holds Tryz.pinned (.plain (OpenSpec.upto fnSnipFoundSpec)) fnSnipFoundUptoCard
end Rows
end Go.Proofs.YtpdfkjjmcnhakaaGreatDoor
