/-
  DERIVED. GIVEN WITH THE SEED: THE CARDS: each row of YtoeajphlomankaaGreatDoorRows.lean that lists a variable, with what it lists TIED to the program's text (the seventh form; the later family's looks); each row that meets fmt, with fmt's text TOLD by the authors' own Lean function (tested against real Go, not proved from fmt's source: count such statements apart). THE CARD IS WHAT COUNTS. Prove the row's statement (the work); the ties are given (YtoeajphlomankaaGreatDoorTie.lean); close each card by the builder's one call (the guide's Derived/Test/ToyasCard.lean, 'card_holds'). Laid BY PROGRAM, IN A SANDBOX (cutbox-door.mjs). By AI agents, Wed Nov 11 2026. No macro, syntax, notation, axiom, sorry.
-/
import Derived.Test.YtoeajphlomankaaGreatDoorRows
import GoSem.ClaimSeven
namespace Go.Proofs.YtoeajphlomankaaGreatDoor
namespace Rows

/-- THE TIED CARD OF 'laws.FnBoundOf'. -/
def fnBoundOfCard : Claim7 := { stood := { row := fnBoundOfRow, standIns := [], harness := (true, "38d8c667efe3a085995acb465ab31f2560f6f8fe05eccaf582187654782245af"), looks := false }, kinds := [], alts := [], laidByText := true, laidKinds := [.data], laidTests := true, laidLooks := .later }
def FnBoundOfCardSaid : Prop := Claim7.holds Tryz.pinned (.plain (OpenSpec.ofChange fnBoundOfSpec)) fnBoundOfCard

/-- THE TIED CARD OF 'laws.FnIndexNew'. -/
def fnIndexNewCard : Claim7 := { stood := { row := fnIndexNewRow, standIns := [], harness := (true, "38d8c667efe3a085995acb465ab31f2560f6f8fe05eccaf582187654782245af"), looks := false }, kinds := [], alts := [], laidByText := true, laidKinds := [.data, .mapped], laidTests := true, laidLooks := .later }
def FnIndexNewCardSaid : Prop := Claim7.holds Tryz.pinned (.plain (OpenSpec.ofChange fnIndexNewSpec)) fnIndexNewCard

/-- THE TIED CARD OF 'laws.FnBoundLooks'. -/
def fnBoundLooksCard : Claim7 := { stood := { row := fnBoundLooksRow, standIns := [], harness := (true, "38d8c667efe3a085995acb465ab31f2560f6f8fe05eccaf582187654782245af"), looks := false }, kinds := [], alts := [], laidByText := true, laidKinds := [.data], laidTests := true, laidLooks := .later }
def FnBoundLooksCardSaid : Prop := Claim7.holds Tryz.pinned (.plain (OpenSpec.ofChange fnBoundLooksSpec)) fnBoundLooksCard

/-- THE TIED CARD OF 'laws.FnScorePlace'. -/
def fnScorePlaceCard : Claim7 := { stood := { row := fnScorePlaceRow, standIns := [], harness := (true, "38d8c667efe3a085995acb465ab31f2560f6f8fe05eccaf582187654782245af"), looks := false }, kinds := [], alts := [], laidByText := true, laidKinds := [.data, .mapped], laidTests := true, laidLooks := .later }
def FnScorePlaceCardSaid : Prop := Claim7.holds Tryz.pinned (.plain (OpenSpec.ofChange fnScorePlaceSpec)) fnScorePlaceCard

/-- THE TIED CARD OF 'laws.FnBoundTop'. -/
def fnBoundTopCard : Claim7 := { stood := { row := fnBoundTopRow, standIns := [], harness := (true, "38d8c667efe3a085995acb465ab31f2560f6f8fe05eccaf582187654782245af"), looks := false }, kinds := [], alts := [], laidByText := true, laidKinds := [.data, .mapped], laidTests := true, laidLooks := .later }
def FnBoundTopCardSaid : Prop := Claim7.holds Tryz.pinned (.plain (OpenSpec.ofChange fnBoundTopSpec)) fnBoundTopCard

/-- THE SECOND FORM's CARD OF 'laws.FnBoundOf'. -/
def fnBoundOfUptoCard : Claim7 := { stood := { row := fnBoundOfUptoRow, standIns := [], harness := (true, "38d8c667efe3a085995acb465ab31f2560f6f8fe05eccaf582187654782245af"), looks := false }, kinds := [], alts := [], laidByText := true, laidKinds := [.data], laidTests := true, laidLooks := .later }
def FnBoundOfUptoCardSaid : Prop := Claim7.holds Tryz.pinned (.plain (OpenSpec.upto fnBoundOfSpec)) fnBoundOfUptoCard

/-- THE SECOND FORM's CARD OF 'laws.FnIndexNew'. -/
def fnIndexNewUptoCard : Claim7 := { stood := { row := fnIndexNewUptoRow, standIns := [], harness := (true, "38d8c667efe3a085995acb465ab31f2560f6f8fe05eccaf582187654782245af"), looks := false }, kinds := [], alts := [], laidByText := true, laidKinds := [.data, .mapped], laidTests := true, laidLooks := .later }
def FnIndexNewUptoCardSaid : Prop := Claim7.holds Tryz.pinned (.plain (OpenSpec.upto fnIndexNewSpec)) fnIndexNewUptoCard

/-- THE SECOND FORM's CARD OF 'laws.FnBoundLooks'. -/
def fnBoundLooksUptoCard : Claim7 := { stood := { row := fnBoundLooksUptoRow, standIns := [], harness := (true, "38d8c667efe3a085995acb465ab31f2560f6f8fe05eccaf582187654782245af"), looks := false }, kinds := [], alts := [], laidByText := true, laidKinds := [.data], laidTests := true, laidLooks := .later }
def FnBoundLooksUptoCardSaid : Prop := Claim7.holds Tryz.pinned (.plain (OpenSpec.upto fnBoundLooksSpec)) fnBoundLooksUptoCard

/-- THE SECOND FORM's CARD OF 'laws.FnScorePlace'. -/
def fnScorePlaceUptoCard : Claim7 := { stood := { row := fnScorePlaceUptoRow, standIns := [], harness := (true, "38d8c667efe3a085995acb465ab31f2560f6f8fe05eccaf582187654782245af"), looks := false }, kinds := [], alts := [], laidByText := true, laidKinds := [.data, .mapped], laidTests := true, laidLooks := .later }
def FnScorePlaceUptoCardSaid : Prop := Claim7.holds Tryz.pinned (.plain (OpenSpec.upto fnScorePlaceSpec)) fnScorePlaceUptoCard

/-- THE SECOND FORM's CARD OF 'laws.FnBoundTop'. -/
def fnBoundTopUptoCard : Claim7 := { stood := { row := fnBoundTopUptoRow, standIns := [], harness := (true, "38d8c667efe3a085995acb465ab31f2560f6f8fe05eccaf582187654782245af"), looks := false }, kinds := [], alts := [], laidByText := true, laidKinds := [.data, .mapped], laidTests := true, laidLooks := .later }
def FnBoundTopUptoCardSaid : Prop := Claim7.holds Tryz.pinned (.plain (OpenSpec.upto fnBoundTopSpec)) fnBoundTopUptoCard
end Rows
end Go.Proofs.YtoeajphlomankaaGreatDoor
