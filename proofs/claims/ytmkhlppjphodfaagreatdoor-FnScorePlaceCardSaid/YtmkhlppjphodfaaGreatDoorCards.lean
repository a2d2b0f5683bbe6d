/-
  DERIVED. GIVEN WITH THE SEED: THE CARDS: each row of YtmkhlppjphodfaaGreatDoorRows.lean that lists a variable, with what it lists TIED to the program's text (the seventh form; the later family's looks); each row that meets fmt, with fmt's text TOLD by the authors' own Lean function (tested against real Go, not proved from fmt's source: count such statements apart). THE CARD IS WHAT COUNTS. Prove the row's statement (the work); the ties are given (YtmkhlppjphodfaaGreatDoorTie.lean); close each card by the builder's one call (the guide's Derived/Test/ToyasCard.lean, 'card_holds'). Laid BY PROGRAM, IN A SANDBOX (cutbox-door.mjs). By AI agents, Wed Nov 11 2026. No macro, syntax, notation, axiom, sorry.
-/
import Derived.Test.YtmkhlppjphodfaaGreatDoorRows
import GoSem.ClaimSeven
namespace Go.Proofs.YtmkhlppjphodfaaGreatDoor
namespace Rows

/-- THE TIED CARD OF 'laws.FnIndexNew'. -/
def fnIndexNewCard : Claim7 := { stood := { row := fnIndexNewRow, standIns := [], harness := (true, "564db4b15b60075e80879e2c33e26e602a92e05e576a1f7bb43f8547914554ee"), looks := false }, kinds := [], alts := [], laidByText := true, laidKinds := [.data, .mapped], laidTests := true, laidLooks := .later }
def FnIndexNewCardSaid : Prop := Claim7.holds Tryz.pinned (.plain (OpenSpec.ofChange fnIndexNewSpec)) fnIndexNewCard

/-- THE TIED CARD OF 'laws.FnScorePlace'. -/
def fnScorePlaceCard : Claim7 := { stood := { row := fnScorePlaceRow, standIns := [], harness := (true, "564db4b15b60075e80879e2c33e26e602a92e05e576a1f7bb43f8547914554ee"), looks := false }, kinds := [], alts := [], laidByText := true, laidKinds := [.data, .mapped], laidTests := true, laidLooks := .later }
def FnScorePlaceCardSaid : Prop := Claim7.holds Tryz.pinned (.plain (OpenSpec.ofChange fnScorePlaceSpec)) fnScorePlaceCard

/-- THE TIED CARD OF 'laws.FnBoundTop'. -/
def fnBoundTopCard : Claim7 := { stood := { row := fnBoundTopRow, standIns := [], harness := (true, "564db4b15b60075e80879e2c33e26e602a92e05e576a1f7bb43f8547914554ee"), looks := false }, kinds := [], alts := [], laidByText := true, laidKinds := [.data, .mapped], laidTests := true, laidLooks := .later }
def FnBoundTopCardSaid : Prop := Claim7.holds Tryz.pinned (.plain (OpenSpec.ofChange fnBoundTopSpec)) fnBoundTopCard

/-- THE TIED CARD OF 'laws.FnScoreTerm'. -/
def fnScoreTermCard : Claim7 := { stood := { row := fnScoreTermRow, standIns := [], harness := (true, "564db4b15b60075e80879e2c33e26e602a92e05e576a1f7bb43f8547914554ee"), looks := false }, kinds := [], alts := [], laidByText := true, laidKinds := [.data, .mapped], laidTests := true, laidLooks := .later }
def FnScoreTermCardSaid : Prop := Claim7.holds Tryz.pinned (.plain (OpenSpec.ofChange fnScoreTermSpec)) fnScoreTermCard

/-- THE TIED CARD OF 'laws.FnScoreAnd'. -/
def fnScoreAndCard : Claim7 := { stood := { row := fnScoreAndRow, standIns := [], harness := (true, "564db4b15b60075e80879e2c33e26e602a92e05e576a1f7bb43f8547914554ee"), looks := false }, kinds := [], alts := [], laidByText := true, laidKinds := [.data, .mapped], laidTests := true, laidLooks := .later }
def FnScoreAndCardSaid : Prop := Claim7.holds Tryz.pinned (.plain (OpenSpec.ofChange fnScoreAndSpec)) fnScoreAndCard

/-- THE TIED CARD OF 'laws.FnScoreLess'. -/
def fnScoreLessCard : Claim7 := { stood := { row := fnScoreLessRow, standIns := [], harness := (true, "564db4b15b60075e80879e2c33e26e602a92e05e576a1f7bb43f8547914554ee"), looks := false }, kinds := [], alts := [], laidByText := true, laidKinds := [.data, .mapped], laidTests := true, laidLooks := .later }
def FnScoreLessCardSaid : Prop := Claim7.holds Tryz.pinned (.plain (OpenSpec.ofChange fnScoreLessSpec)) fnScoreLessCard

/-- THE TIED CARD OF 'laws.FnScoreOr'. -/
def fnScoreOrCard : Claim7 := { stood := { row := fnScoreOrRow, standIns := [], harness := (true, "564db4b15b60075e80879e2c33e26e602a92e05e576a1f7bb43f8547914554ee"), looks := false }, kinds := [], alts := [], laidByText := true, laidKinds := [.data, .mapped], laidTests := true, laidLooks := .later }
def FnScoreOrCardSaid : Prop := Claim7.holds Tryz.pinned (.plain (OpenSpec.ofChange fnScoreOrSpec)) fnScoreOrCard

/-- THE TIED CARD OF 'laws.FnScoreTimes'. -/
def fnScoreTimesCard : Claim7 := { stood := { row := fnScoreTimesRow, standIns := [], harness := (true, "564db4b15b60075e80879e2c33e26e602a92e05e576a1f7bb43f8547914554ee"), looks := false }, kinds := [], alts := [], laidByText := true, laidKinds := [.data, .mapped], laidTests := true, laidLooks := .later }
def FnScoreTimesCardSaid : Prop := Claim7.holds Tryz.pinned (.plain (OpenSpec.ofChange fnScoreTimesSpec)) fnScoreTimesCard

/-- THE TIED CARD OF 'laws.FnScorePhrase'. -/
def fnScorePhraseCard : Claim7 := { stood := { row := fnScorePhraseRow, standIns := [], harness := (true, "564db4b15b60075e80879e2c33e26e602a92e05e576a1f7bb43f8547914554ee"), looks := false }, kinds := [], alts := [], laidByText := true, laidKinds := [.data, .mapped], laidTests := true, laidLooks := .later }
def FnScorePhraseCardSaid : Prop := Claim7.holds Tryz.pinned (.plain (OpenSpec.ofChange fnScorePhraseSpec)) fnScorePhraseCard

/-- THE TIED CARD OF 'laws.FnMatchOf'. -/
def fnMatchOfCard : Claim7 := { stood := { row := fnMatchOfRow, standIns := [], harness := (true, "564db4b15b60075e80879e2c33e26e602a92e05e576a1f7bb43f8547914554ee"), looks := false }, kinds := [], alts := [], laidByText := true, laidKinds := [.data, .mapped], laidTests := true, laidLooks := .later }
def FnMatchOfCardSaid : Prop := Claim7.holds Tryz.pinned (.plain (OpenSpec.ofChange fnMatchOfSpec)) fnMatchOfCard

/-- THE TIED CARD OF 'laws.FnTopFew'. -/
def fnTopFewCard : Claim7 := { stood := { row := fnTopFewRow, standIns := [], harness := (true, "564db4b15b60075e80879e2c33e26e602a92e05e576a1f7bb43f8547914554ee"), looks := false }, kinds := [], alts := [], laidByText := true, laidKinds := [.data, .mapped], laidTests := true, laidLooks := .later }
def FnTopFewCardSaid : Prop := Claim7.holds Tryz.pinned (.plain (OpenSpec.ofChange fnTopFewSpec)) fnTopFewCard

/-- THE TIED CARD OF 'laws.FnTopTimes'. -/
def fnTopTimesCard : Claim7 := { stood := { row := fnTopTimesRow, standIns := [], harness := (true, "564db4b15b60075e80879e2c33e26e602a92e05e576a1f7bb43f8547914554ee"), looks := false }, kinds := [], alts := [], laidByText := true, laidKinds := [.data, .mapped], laidTests := true, laidLooks := .later }
def FnTopTimesCardSaid : Prop := Claim7.holds Tryz.pinned (.plain (OpenSpec.ofChange fnTopTimesSpec)) fnTopTimesCard

/-- THE SECOND FORM's CARD OF 'laws.FnIndexNew'. -/
def fnIndexNewUptoCard : Claim7 := { stood := { row := fnIndexNewUptoRow, standIns := [], harness := (true, "564db4b15b60075e80879e2c33e26e602a92e05e576a1f7bb43f8547914554ee"), looks := false }, kinds := [], alts := [], laidByText := true, laidKinds := [.data, .mapped], laidTests := true, laidLooks := .later }
def FnIndexNewUptoCardSaid : Prop := Claim7.holds Tryz.pinned (.plain (OpenSpec.upto fnIndexNewSpec)) fnIndexNewUptoCard

/-- THE SECOND FORM's CARD OF 'laws.FnScorePlace'. -/
def fnScorePlaceUptoCard : Claim7 := { stood := { row := fnScorePlaceUptoRow, standIns := [], harness := (true, "564db4b15b60075e80879e2c33e26e602a92e05e576a1f7bb43f8547914554ee"), looks := false }, kinds := [], alts := [], laidByText := true, laidKinds := [.data, .mapped], laidTests := true, laidLooks := .later }
def FnScorePlaceUptoCardSaid : Prop := Claim7.holds Tryz.pinned (.plain (OpenSpec.upto fnScorePlaceSpec)) fnScorePlaceUptoCard

/-- THE SECOND FORM's CARD OF 'laws.FnBoundTop'. -/
def fnBoundTopUptoCard : Claim7 := { stood := { row := fnBoundTopUptoRow, standIns := [], harness := (true, "564db4b15b60075e80879e2c33e26e602a92e05e576a1f7bb43f8547914554ee"), looks := false }, kinds := [], alts := [], laidByText := true, laidKinds := [.data, .mapped], laidTests := true, laidLooks := .later }
def FnBoundTopUptoCardSaid : Prop := Claim7.holds Tryz.pinned (.plain (OpenSpec.upto fnBoundTopSpec)) fnBoundTopUptoCard

/-- THE SECOND FORM's CARD OF 'laws.FnScoreTerm'. -/
def fnScoreTermUptoCard : Claim7 := { stood := { row := fnScoreTermUptoRow, standIns := [], harness := (true, "564db4b15b60075e80879e2c33e26e602a92e05e576a1f7bb43f8547914554ee"), looks := false }, kinds := [], alts := [], laidByText := true, laidKinds := [.data, .mapped], laidTests := true, laidLooks := .later }
def FnScoreTermUptoCardSaid : Prop := Claim7.holds Tryz.pinned (.plain (OpenSpec.upto fnScoreTermSpec)) fnScoreTermUptoCard

/-- THE SECOND FORM's CARD OF 'laws.FnScoreAnd'. -/
def fnScoreAndUptoCard : Claim7 := { stood := { row := fnScoreAndUptoRow, standIns := [], harness := (true, "564db4b15b60075e80879e2c33e26e602a92e05e576a1f7bb43f8547914554ee"), looks := false }, kinds := [], alts := [], laidByText := true, laidKinds := [.data, .mapped], laidTests := true, laidLooks := .later }
def FnScoreAndUptoCardSaid : Prop := Claim7.holds Tryz.pinned (.plain (OpenSpec.upto fnScoreAndSpec)) fnScoreAndUptoCard

/-- THE SECOND FORM's CARD OF 'laws.FnScoreLess'. -/
def fnScoreLessUptoCard : Claim7 := { stood := { row := fnScoreLessUptoRow, standIns := [], harness := (true, "564db4b15b60075e80879e2c33e26e602a92e05e576a1f7bb43f8547914554ee"), looks := false }, kinds := [], alts := [], laidByText := true, laidKinds := [.data, .mapped], laidTests := true, laidLooks := .later }
def FnScoreLessUptoCardSaid : Prop := Claim7.holds Tryz.pinned (.plain (OpenSpec.upto fnScoreLessSpec)) fnScoreLessUptoCard

/-- THE SECOND FORM's CARD OF 'laws.FnScoreOr'. -/
def fnScoreOrUptoCard : Claim7 := { stood := { row := fnScoreOrUptoRow, standIns := [], harness := (true, "564db4b15b60075e80879e2c33e26e602a92e05e576a1f7bb43f8547914554ee"), looks := false }, kinds := [], alts := [], laidByText := true, laidKinds := [.data, .mapped], laidTests := true, laidLooks := .later }
def FnScoreOrUptoCardSaid : Prop := Claim7.holds Tryz.pinned (.plain (OpenSpec.upto fnScoreOrSpec)) fnScoreOrUptoCard

/-- THE SECOND FORM's CARD OF 'laws.FnScoreTimes'. -/
def fnScoreTimesUptoCard : Claim7 := { stood := { row := fnScoreTimesUptoRow, standIns := [], harness := (true, "564db4b15b60075e80879e2c33e26e602a92e05e576a1f7bb43f8547914554ee"), looks := false }, kinds := [], alts := [], laidByText := true, laidKinds := [.data, .mapped], laidTests := true, laidLooks := .later }
def FnScoreTimesUptoCardSaid : Prop := Claim7.holds Tryz.pinned (.plain (OpenSpec.upto fnScoreTimesSpec)) fnScoreTimesUptoCard

/-- THE SECOND FORM's CARD OF 'laws.FnScorePhrase'. -/
def fnScorePhraseUptoCard : Claim7 := { stood := { row := fnScorePhraseUptoRow, standIns := [], harness := (true, "564db4b15b60075e80879e2c33e26e602a92e05e576a1f7bb43f8547914554ee"), looks := false }, kinds := [], alts := [], laidByText := true, laidKinds := [.data, .mapped], laidTests := true, laidLooks := .later }
def FnScorePhraseUptoCardSaid : Prop := Claim7.holds Tryz.pinned (.plain (OpenSpec.upto fnScorePhraseSpec)) fnScorePhraseUptoCard

/-- THE SECOND FORM's CARD OF 'laws.FnMatchOf'. -/
def fnMatchOfUptoCard : Claim7 := { stood := { row := fnMatchOfUptoRow, standIns := [], harness := (true, "564db4b15b60075e80879e2c33e26e602a92e05e576a1f7bb43f8547914554ee"), looks := false }, kinds := [], alts := [], laidByText := true, laidKinds := [.data, .mapped], laidTests := true, laidLooks := .later }
def FnMatchOfUptoCardSaid : Prop := Claim7.holds Tryz.pinned (.plain (OpenSpec.upto fnMatchOfSpec)) fnMatchOfUptoCard

/-- THE SECOND FORM's CARD OF 'laws.FnTopFew'. -/
def fnTopFewUptoCard : Claim7 := { stood := { row := fnTopFewUptoRow, standIns := [], harness := (true, "564db4b15b60075e80879e2c33e26e602a92e05e576a1f7bb43f8547914554ee"), looks := false }, kinds := [], alts := [], laidByText := true, laidKinds := [.data, .mapped], laidTests := true, laidLooks := .later }
def FnTopFewUptoCardSaid : Prop := Claim7.holds Tryz.pinned (.plain (OpenSpec.upto fnTopFewSpec)) fnTopFewUptoCard

/-- THE SECOND FORM's CARD OF 'laws.FnTopTimes'. -/
def fnTopTimesUptoCard : Claim7 := { stood := { row := fnTopTimesUptoRow, standIns := [], harness := (true, "564db4b15b60075e80879e2c33e26e602a92e05e576a1f7bb43f8547914554ee"), looks := false }, kinds := [], alts := [], laidByText := true, laidKinds := [.data, .mapped], laidTests := true, laidLooks := .later }
def FnTopTimesUptoCardSaid : Prop := Claim7.holds Tryz.pinned (.plain (OpenSpec.upto fnTopTimesSpec)) fnTopTimesUptoCard
end Rows
end Go.Proofs.YtmkhlppjphodfaaGreatDoor
