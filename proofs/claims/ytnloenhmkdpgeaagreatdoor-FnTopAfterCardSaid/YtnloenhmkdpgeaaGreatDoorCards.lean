/-
  DERIVED. GIVEN WITH THE SEED: THE CARDS: each row of YtnloenhmkdpgeaaGreatDoorRows.lean that lists a variable, with what it lists TIED to the program's text (the seventh form; the later family's looks); each row that meets fmt, with fmt's text TOLD by the authors' own Lean function (tested against real Go, not proved from fmt's source: count such statements apart). THE CARD IS WHAT COUNTS. Prove the row's statement (the work); the ties are given (YtnloenhmkdpgeaaGreatDoorTie.lean); close each card by the builder's one call (the guide's Derived/Test/ToyasCard.lean, 'card_holds'). Laid BY PROGRAM, IN A SANDBOX (cutbox-door.mjs). By AI agents, Wed Nov 11 2026. No macro, syntax, notation, axiom, sorry.
-/
import Derived.Test.YtnloenhmkdpgeaaGreatDoorRows
import GoSem.ClaimSeven
namespace Go.Proofs.YtnloenhmkdpgeaaGreatDoor
namespace Rows

/-- THE TIED CARD OF 'laws.FnScoreTerm'. -/
def fnScoreTermCard : Claim7 := { stood := { row := fnScoreTermRow, standIns := [], harness := (true, "41dcb77eb32479d1c527a448b43f78800be103f64cc31ce4e38b8f9a0b40aaa3"), looks := false }, kinds := [], alts := [], laidByText := true, laidKinds := [.data, .mapped], laidTests := true, laidLooks := .later }
def FnScoreTermCardSaid : Prop := Claim7.holds Tryz.pinned (.plain (OpenSpec.ofChange fnScoreTermSpec)) fnScoreTermCard

/-- THE TIED CARD OF 'laws.FnBoundTop'. -/
def fnBoundTopCard : Claim7 := { stood := { row := fnBoundTopRow, standIns := [], harness := (true, "41dcb77eb32479d1c527a448b43f78800be103f64cc31ce4e38b8f9a0b40aaa3"), looks := false }, kinds := [], alts := [], laidByText := true, laidKinds := [.data, .mapped], laidTests := true, laidLooks := .later }
def FnBoundTopCardSaid : Prop := Claim7.holds Tryz.pinned (.plain (OpenSpec.ofChange fnBoundTopSpec)) fnBoundTopCard

/-- THE TIED CARD OF 'laws.FnScorePhrase'. -/
def fnScorePhraseCard : Claim7 := { stood := { row := fnScorePhraseRow, standIns := [], harness := (true, "41dcb77eb32479d1c527a448b43f78800be103f64cc31ce4e38b8f9a0b40aaa3"), looks := false }, kinds := [], alts := [], laidByText := true, laidKinds := [.data, .mapped], laidTests := true, laidLooks := .later }
def FnScorePhraseCardSaid : Prop := Claim7.holds Tryz.pinned (.plain (OpenSpec.ofChange fnScorePhraseSpec)) fnScorePhraseCard

/-- THE TIED CARD OF 'laws.FnScoreTimes'. -/
def fnScoreTimesCard : Claim7 := { stood := { row := fnScoreTimesRow, standIns := [], harness := (true, "41dcb77eb32479d1c527a448b43f78800be103f64cc31ce4e38b8f9a0b40aaa3"), looks := false }, kinds := [], alts := [], laidByText := true, laidKinds := [.data, .mapped], laidTests := true, laidLooks := .later }
def FnScoreTimesCardSaid : Prop := Claim7.holds Tryz.pinned (.plain (OpenSpec.ofChange fnScoreTimesSpec)) fnScoreTimesCard

/-- THE TIED CARD OF 'laws.FnTopFew'. -/
def fnTopFewCard : Claim7 := { stood := { row := fnTopFewRow, standIns := [], harness := (true, "41dcb77eb32479d1c527a448b43f78800be103f64cc31ce4e38b8f9a0b40aaa3"), looks := false }, kinds := [], alts := [], laidByText := true, laidKinds := [.data, .mapped], laidTests := true, laidLooks := .later }
def FnTopFewCardSaid : Prop := Claim7.holds Tryz.pinned (.plain (OpenSpec.ofChange fnTopFewSpec)) fnTopFewCard

/-- THE TIED CARD OF 'laws.FnTopTimes'. -/
def fnTopTimesCard : Claim7 := { stood := { row := fnTopTimesRow, standIns := [], harness := (true, "41dcb77eb32479d1c527a448b43f78800be103f64cc31ce4e38b8f9a0b40aaa3"), looks := false }, kinds := [], alts := [], laidByText := true, laidKinds := [.data, .mapped], laidTests := true, laidLooks := .later }
def FnTopTimesCardSaid : Prop := Claim7.holds Tryz.pinned (.plain (OpenSpec.ofChange fnTopTimesSpec)) fnTopTimesCard

/-- THE TIED CARD OF 'laws.FnMatchOf'. -/
def fnMatchOfCard : Claim7 := { stood := { row := fnMatchOfRow, standIns := [], harness := (true, "41dcb77eb32479d1c527a448b43f78800be103f64cc31ce4e38b8f9a0b40aaa3"), looks := false }, kinds := [], alts := [], laidByText := true, laidKinds := [.data, .mapped], laidTests := true, laidLooks := .later }
def FnMatchOfCardSaid : Prop := Claim7.holds Tryz.pinned (.plain (OpenSpec.ofChange fnMatchOfSpec)) fnMatchOfCard

/-- THE TIED CARD OF 'laws.FnScoreFlat'. -/
def fnScoreFlatCard : Claim7 := { stood := { row := fnScoreFlatRow, standIns := [], harness := (true, "41dcb77eb32479d1c527a448b43f78800be103f64cc31ce4e38b8f9a0b40aaa3"), looks := false }, kinds := [], alts := [], laidByText := true, laidKinds := [.data, .mapped], laidTests := true, laidLooks := .later }
def FnScoreFlatCardSaid : Prop := Claim7.holds Tryz.pinned (.plain (OpenSpec.ofChange fnScoreFlatSpec)) fnScoreFlatCard

/-- THE TIED CARD OF 'laws.FnScoreNear'. -/
def fnScoreNearCard : Claim7 := { stood := { row := fnScoreNearRow, standIns := [], harness := (true, "41dcb77eb32479d1c527a448b43f78800be103f64cc31ce4e38b8f9a0b40aaa3"), looks := false }, kinds := [], alts := [], laidByText := true, laidKinds := [.data, .mapped], laidTests := true, laidLooks := .later }
def FnScoreNearCardSaid : Prop := Claim7.holds Tryz.pinned (.plain (OpenSpec.ofChange fnScoreNearSpec)) fnScoreNearCard

/-- THE TIED CARD OF 'laws.FnTopOf'. -/
def fnTopOfCard : Claim7 := { stood := { row := fnTopOfRow, standIns := [], harness := (true, "41dcb77eb32479d1c527a448b43f78800be103f64cc31ce4e38b8f9a0b40aaa3"), looks := false }, kinds := [], alts := [], laidByText := true, laidKinds := [.data, .mapped], laidTests := true, laidLooks := .later }
def FnTopOfCardSaid : Prop := Claim7.holds Tryz.pinned (.plain (OpenSpec.ofChange fnTopOfSpec)) fnTopOfCard

/-- THE TIED CARD OF 'laws.FnTopLess'. -/
def fnTopLessCard : Claim7 := { stood := { row := fnTopLessRow, standIns := [], harness := (true, "41dcb77eb32479d1c527a448b43f78800be103f64cc31ce4e38b8f9a0b40aaa3"), looks := false }, kinds := [], alts := [], laidByText := true, laidKinds := [.data, .mapped], laidTests := true, laidLooks := .later }
def FnTopLessCardSaid : Prop := Claim7.holds Tryz.pinned (.plain (OpenSpec.ofChange fnTopLessSpec)) fnTopLessCard

/-- THE TIED CARD OF 'laws.FnTopAfter'. -/
def fnTopAfterCard : Claim7 := { stood := { row := fnTopAfterRow, standIns := [], harness := (true, "41dcb77eb32479d1c527a448b43f78800be103f64cc31ce4e38b8f9a0b40aaa3"), looks := false }, kinds := [], alts := [], laidByText := true, laidKinds := [.data, .mapped], laidTests := true, laidLooks := .later }
def FnTopAfterCardSaid : Prop := Claim7.holds Tryz.pinned (.plain (OpenSpec.ofChange fnTopAfterSpec)) fnTopAfterCard

/-- THE SECOND FORM's CARD OF 'laws.FnScoreTerm'. -/
def fnScoreTermUptoCard : Claim7 := { stood := { row := fnScoreTermUptoRow, standIns := [], harness := (true, "41dcb77eb32479d1c527a448b43f78800be103f64cc31ce4e38b8f9a0b40aaa3"), looks := false }, kinds := [], alts := [], laidByText := true, laidKinds := [.data, .mapped], laidTests := true, laidLooks := .later }
def FnScoreTermUptoCardSaid : Prop := Claim7.holds Tryz.pinned (.plain (OpenSpec.upto fnScoreTermSpec)) fnScoreTermUptoCard

/-- THE SECOND FORM's CARD OF 'laws.FnBoundTop'. -/
def fnBoundTopUptoCard : Claim7 := { stood := { row := fnBoundTopUptoRow, standIns := [], harness := (true, "41dcb77eb32479d1c527a448b43f78800be103f64cc31ce4e38b8f9a0b40aaa3"), looks := false }, kinds := [], alts := [], laidByText := true, laidKinds := [.data, .mapped], laidTests := true, laidLooks := .later }
def FnBoundTopUptoCardSaid : Prop := Claim7.holds Tryz.pinned (.plain (OpenSpec.upto fnBoundTopSpec)) fnBoundTopUptoCard

/-- THE SECOND FORM's CARD OF 'laws.FnScorePhrase'. -/
def fnScorePhraseUptoCard : Claim7 := { stood := { row := fnScorePhraseUptoRow, standIns := [], harness := (true, "41dcb77eb32479d1c527a448b43f78800be103f64cc31ce4e38b8f9a0b40aaa3"), looks := false }, kinds := [], alts := [], laidByText := true, laidKinds := [.data, .mapped], laidTests := true, laidLooks := .later }
def FnScorePhraseUptoCardSaid : Prop := Claim7.holds Tryz.pinned (.plain (OpenSpec.upto fnScorePhraseSpec)) fnScorePhraseUptoCard

/-- THE SECOND FORM's CARD OF 'laws.FnScoreTimes'. -/
def fnScoreTimesUptoCard : Claim7 := { stood := { row := fnScoreTimesUptoRow, standIns := [], harness := (true, "41dcb77eb32479d1c527a448b43f78800be103f64cc31ce4e38b8f9a0b40aaa3"), looks := false }, kinds := [], alts := [], laidByText := true, laidKinds := [.data, .mapped], laidTests := true, laidLooks := .later }
def FnScoreTimesUptoCardSaid : Prop := Claim7.holds Tryz.pinned (.plain (OpenSpec.upto fnScoreTimesSpec)) fnScoreTimesUptoCard

/-- THE SECOND FORM's CARD OF 'laws.FnTopFew'. -/
def fnTopFewUptoCard : Claim7 := { stood := { row := fnTopFewUptoRow, standIns := [], harness := (true, "41dcb77eb32479d1c527a448b43f78800be103f64cc31ce4e38b8f9a0b40aaa3"), looks := false }, kinds := [], alts := [], laidByText := true, laidKinds := [.data, .mapped], laidTests := true, laidLooks := .later }
def FnTopFewUptoCardSaid : Prop := Claim7.holds Tryz.pinned (.plain (OpenSpec.upto fnTopFewSpec)) fnTopFewUptoCard

/-- THE SECOND FORM's CARD OF 'laws.FnTopTimes'. -/
def fnTopTimesUptoCard : Claim7 := { stood := { row := fnTopTimesUptoRow, standIns := [], harness := (true, "41dcb77eb32479d1c527a448b43f78800be103f64cc31ce4e38b8f9a0b40aaa3"), looks := false }, kinds := [], alts := [], laidByText := true, laidKinds := [.data, .mapped], laidTests := true, laidLooks := .later }
def FnTopTimesUptoCardSaid : Prop := Claim7.holds Tryz.pinned (.plain (OpenSpec.upto fnTopTimesSpec)) fnTopTimesUptoCard

/-- THE SECOND FORM's CARD OF 'laws.FnMatchOf'. -/
def fnMatchOfUptoCard : Claim7 := { stood := { row := fnMatchOfUptoRow, standIns := [], harness := (true, "41dcb77eb32479d1c527a448b43f78800be103f64cc31ce4e38b8f9a0b40aaa3"), looks := false }, kinds := [], alts := [], laidByText := true, laidKinds := [.data, .mapped], laidTests := true, laidLooks := .later }
def FnMatchOfUptoCardSaid : Prop := Claim7.holds Tryz.pinned (.plain (OpenSpec.upto fnMatchOfSpec)) fnMatchOfUptoCard

/-- THE SECOND FORM's CARD OF 'laws.FnScoreFlat'. -/
def fnScoreFlatUptoCard : Claim7 := { stood := { row := fnScoreFlatUptoRow, standIns := [], harness := (true, "41dcb77eb32479d1c527a448b43f78800be103f64cc31ce4e38b8f9a0b40aaa3"), looks := false }, kinds := [], alts := [], laidByText := true, laidKinds := [.data, .mapped], laidTests := true, laidLooks := .later }
def FnScoreFlatUptoCardSaid : Prop := Claim7.holds Tryz.pinned (.plain (OpenSpec.upto fnScoreFlatSpec)) fnScoreFlatUptoCard

/-- THE SECOND FORM's CARD OF 'laws.FnScoreNear'. -/
def fnScoreNearUptoCard : Claim7 := { stood := { row := fnScoreNearUptoRow, standIns := [], harness := (true, "41dcb77eb32479d1c527a448b43f78800be103f64cc31ce4e38b8f9a0b40aaa3"), looks := false }, kinds := [], alts := [], laidByText := true, laidKinds := [.data, .mapped], laidTests := true, laidLooks := .later }
def FnScoreNearUptoCardSaid : Prop := Claim7.holds Tryz.pinned (.plain (OpenSpec.upto fnScoreNearSpec)) fnScoreNearUptoCard

/-- THE SECOND FORM's CARD OF 'laws.FnTopOf'. -/
def fnTopOfUptoCard : Claim7 := { stood := { row := fnTopOfUptoRow, standIns := [], harness := (true, "41dcb77eb32479d1c527a448b43f78800be103f64cc31ce4e38b8f9a0b40aaa3"), looks := false }, kinds := [], alts := [], laidByText := true, laidKinds := [.data, .mapped], laidTests := true, laidLooks := .later }
def FnTopOfUptoCardSaid : Prop := Claim7.holds Tryz.pinned (.plain (OpenSpec.upto fnTopOfSpec)) fnTopOfUptoCard

/-- THE SECOND FORM's CARD OF 'laws.FnTopLess'. -/
def fnTopLessUptoCard : Claim7 := { stood := { row := fnTopLessUptoRow, standIns := [], harness := (true, "41dcb77eb32479d1c527a448b43f78800be103f64cc31ce4e38b8f9a0b40aaa3"), looks := false }, kinds := [], alts := [], laidByText := true, laidKinds := [.data, .mapped], laidTests := true, laidLooks := .later }
def FnTopLessUptoCardSaid : Prop := Claim7.holds Tryz.pinned (.plain (OpenSpec.upto fnTopLessSpec)) fnTopLessUptoCard

/-- THE SECOND FORM's CARD OF 'laws.FnTopAfter'. -/
def fnTopAfterUptoCard : Claim7 := { stood := { row := fnTopAfterUptoRow, standIns := [], harness := (true, "41dcb77eb32479d1c527a448b43f78800be103f64cc31ce4e38b8f9a0b40aaa3"), looks := false }, kinds := [], alts := [], laidByText := true, laidKinds := [.data, .mapped], laidTests := true, laidLooks := .later }
def FnTopAfterUptoCardSaid : Prop := Claim7.holds Tryz.pinned (.plain (OpenSpec.upto fnTopAfterSpec)) fnTopAfterUptoCard
end Rows
end Go.Proofs.YtnloenhmkdpgeaaGreatDoor
