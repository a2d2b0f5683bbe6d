/-
  DERIVED. GIVEN WITH THE SEED: THE CARDS: each row of YtepcfgnicnibnaaGreatDoorRows.lean that lists a variable, with what it lists TIED to the program's text (the seventh form; the later family's looks); each row that meets fmt, with fmt's text TOLD by the authors' own Lean function (tested against real Go, not proved from fmt's source: count such statements apart). THE CARD IS WHAT COUNTS. Prove the row's statement (the work); the ties are given (YtepcfgnicnibnaaGreatDoorTie.lean); close each card by the builder's one call (the guide's Derived/Test/ToyasCard.lean, 'card_holds'). Laid BY PROGRAM, IN A SANDBOX (cutbox-door.mjs). By AI agents, Wed Nov 11 2026. No macro, syntax, notation, axiom, sorry.
-/
import Derived.Test.YtepcfgnicnibnaaGreatDoorRows
import GoSem.ClaimSeven
namespace Go.Proofs.YtepcfgnicnibnaaGreatDoor
namespace Rows

/-- THE TIED CARD OF 'laws.FnPageOf'. -/
def fnPageOfCard : Claim7 := { stood := { row := fnPageOfRow, standIns := [], harness := (true, "d96f2da7b8e612c9ca95e99ae8cc2a5c374843375510afbdc68363c062b93749"), looks := false }, kinds := [], alts := [], laidByText := true, laidKinds := [.data, .mapped], laidTests := true, laidLooks := .later }
def FnPageOfCardSaid : Prop := Claim7.holds Tryz.pinned (.plain (OpenSpec.ofChange fnPageOfSpec)) fnPageOfCard

/-- THE TIED CARD OF 'laws.FnPageNext'. -/
def fnPageNextCard : Claim7 := { stood := { row := fnPageNextRow, standIns := [], harness := (true, "d96f2da7b8e612c9ca95e99ae8cc2a5c374843375510afbdc68363c062b93749"), looks := false }, kinds := [], alts := [], laidByText := true, laidKinds := [.data, .mapped], laidTests := true, laidLooks := .later }
def FnPageNextCardSaid : Prop := Claim7.holds Tryz.pinned (.plain (OpenSpec.ofChange fnPageNextSpec)) fnPageNextCard

/-- THE TIED CARD OF 'laws.FnShardTop'. -/
def fnShardTopCard : Claim7 := { stood := { row := fnShardTopRow, standIns := [], harness := (true, "d96f2da7b8e612c9ca95e99ae8cc2a5c374843375510afbdc68363c062b93749"), looks := false }, kinds := [], alts := [], laidByText := true, laidKinds := [.data, .mapped], laidTests := true, laidLooks := .later }
def FnShardTopCardSaid : Prop := Claim7.holds Tryz.pinned (.plain (OpenSpec.ofChange fnShardTopSpec)) fnShardTopCard

/-- THE TIED CARD OF 'laws.FnFacetFound'. -/
def fnFacetFoundCard : Claim7 := { stood := { row := fnFacetFoundRow, standIns := [], harness := (true, "d96f2da7b8e612c9ca95e99ae8cc2a5c374843375510afbdc68363c062b93749"), looks := false }, kinds := [], alts := [], laidByText := true, laidKinds := [.data, .mapped], laidTests := true, laidLooks := .later }
def FnFacetFoundCardSaid : Prop := Claim7.holds Tryz.pinned (.plain (OpenSpec.ofChange fnFacetFoundSpec)) fnFacetFoundCard

/-- THE TIED CARD OF 'laws.FnSnipFound'. -/
def fnSnipFoundCard : Claim7 := { stood := { row := fnSnipFoundRow, standIns := [], harness := (true, "d96f2da7b8e612c9ca95e99ae8cc2a5c374843375510afbdc68363c062b93749"), looks := false }, kinds := [], alts := [], laidByText := true, laidKinds := [.data, .mapped], laidTests := true, laidLooks := .later }
def FnSnipFoundCardSaid : Prop := Claim7.holds Tryz.pinned (.plain (OpenSpec.ofChange fnSnipFoundSpec)) fnSnipFoundCard

/-- THE TIED CARD OF 'laws.FnExactLivePut'. -/
def fnExactLivePutCard : Claim7 := { stood := { row := fnExactLivePutRow, standIns := [], harness := (true, "d96f2da7b8e612c9ca95e99ae8cc2a5c374843375510afbdc68363c062b93749"), looks := false }, kinds := [], alts := [], laidByText := true, laidKinds := [.data, .data, .data], laidTests := true, laidLooks := .later }
def FnExactLivePutCardSaid : Prop := Claim7.holds Tryz.pinned (.plain (OpenSpec.ofChange fnExactLivePutSpec)) fnExactLivePutCard

/-- THE SECOND FORM's CARD OF 'laws.FnPageOf'. -/
def fnPageOfUptoCard : Claim7 := { stood := { row := fnPageOfUptoRow, standIns := [], harness := (true, "d96f2da7b8e612c9ca95e99ae8cc2a5c374843375510afbdc68363c062b93749"), looks := false }, kinds := [], alts := [], laidByText := true, laidKinds := [.data, .mapped], laidTests := true, laidLooks := .later }
def FnPageOfUptoCardSaid : Prop := Claim7.holds Tryz.pinned (.plain (OpenSpec.upto fnPageOfSpec)) fnPageOfUptoCard

/-- THE SECOND FORM's CARD OF 'laws.FnPageNext'. -/
def fnPageNextUptoCard : Claim7 := { stood := { row := fnPageNextUptoRow, standIns := [], harness := (true, "d96f2da7b8e612c9ca95e99ae8cc2a5c374843375510afbdc68363c062b93749"), looks := false }, kinds := [], alts := [], laidByText := true, laidKinds := [.data, .mapped], laidTests := true, laidLooks := .later }
def FnPageNextUptoCardSaid : Prop := Claim7.holds Tryz.pinned (.plain (OpenSpec.upto fnPageNextSpec)) fnPageNextUptoCard

/-- THE SECOND FORM's CARD OF 'laws.FnShardTop'. -/
def fnShardTopUptoCard : Claim7 := { stood := { row := fnShardTopUptoRow, standIns := [], harness := (true, "d96f2da7b8e612c9ca95e99ae8cc2a5c374843375510afbdc68363c062b93749"), looks := false }, kinds := [], alts := [], laidByText := true, laidKinds := [.data, .mapped], laidTests := true, laidLooks := .later }
def FnShardTopUptoCardSaid : Prop := Claim7.holds Tryz.pinned (.plain (OpenSpec.upto fnShardTopSpec)) fnShardTopUptoCard

/-- THE SECOND FORM's CARD OF 'laws.FnFacetFound'. -/
def fnFacetFoundUptoCard : Claim7 := { stood := { row := fnFacetFoundUptoRow, standIns := [], harness := (true, "d96f2da7b8e612c9ca95e99ae8cc2a5c374843375510afbdc68363c062b93749"), looks := false }, kinds := [], alts := [], laidByText := true, laidKinds := [.data, .mapped], laidTests := true, laidLooks := .later }
def FnFacetFoundUptoCardSaid : Prop := Claim7.holds Tryz.pinned (.plain (OpenSpec.upto fnFacetFoundSpec)) fnFacetFoundUptoCard

/-- THE SECOND FORM's CARD OF 'laws.FnSnipFound'. -/
def fnSnipFoundUptoCard : Claim7 := { stood := { row := fnSnipFoundUptoRow, standIns := [], harness := (true, "d96f2da7b8e612c9ca95e99ae8cc2a5c374843375510afbdc68363c062b93749"), looks := false }, kinds := [], alts := [], laidByText := true, laidKinds := [.data, .mapped], laidTests := true, laidLooks := .later }
def FnSnipFoundUptoCardSaid : Prop := Claim7.holds Tryz.pinned (.plain (OpenSpec.upto fnSnipFoundSpec)) fnSnipFoundUptoCard

/-- THE SECOND FORM's CARD OF 'laws.FnExactLivePut'. -/
def fnExactLivePutUptoCard : Claim7 := { stood := { row := fnExactLivePutUptoRow, standIns := [], harness := (true, "d96f2da7b8e612c9ca95e99ae8cc2a5c374843375510afbdc68363c062b93749"), looks := false }, kinds := [], alts := [], laidByText := true, laidKinds := [.data, .data, .data], laidTests := true, laidLooks := .later }
def FnExactLivePutUptoCardSaid : Prop := Claim7.holds Tryz.pinned (.plain (OpenSpec.upto fnExactLivePutSpec)) fnExactLivePutUptoCard
end Rows
end Go.Proofs.YtepcfgnicnibnaaGreatDoor
