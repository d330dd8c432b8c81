/-
  DERIVED. GIVEN WITH THE SEED: THE CARDS: each row of YtgmleamhjnlknaaGreatDoorRows.lean that lists a variable, with what it lists TIED to the program's text (the seventh form; the later family's looks); each row that meets fmt, with fmt's text TOLD by the authors' own Lean function (tested against real Go, not proved from fmt's source: count such statements apart). THE CARD IS WHAT COUNTS. Prove the row's statement (the work); the ties are given (YtgmleamhjnlknaaGreatDoorTie.lean); close each card by the builder's one call (the guide's Derived/Test/ToyasCard.lean, 'card_holds'). Laid BY PROGRAM, IN A SANDBOX (cutbox-door.mjs). By AI agents, Wed Nov 11 2026. No macro, syntax, notation, axiom, sorry.
-/
import Derived.Test.YtgmleamhjnlknaaGreatDoorRows
import GoSem.ClaimSeven
namespace Go.Proofs.YtgmleamhjnlknaaGreatDoor
namespace Rows

/-- THE TIED CARD OF 'gamehallkeep2.RegretContinues'. -/
def regretContinuesCard : Claim7 := { stood := { row := regretContinuesRow, standIns := [], harness := (true, "01fbb469cf8b0980b89ab124d6c951f307d4b37b82991b3a2bba3582623a25d4"), looks := true }, kinds := [], alts := [], laidByText := true, laidKinds := [.data, .data, .data, .data, .sentinel, .sentinel, .pinned], laidTests := true, laidLooks := .later }
def RegretContinuesCardSaid : Prop := Claim7.holds Tryz.pinned (.plain (OpenSpec.ofChange regretContinuesSpec)) regretContinuesCard

/-- THE TIED CARD OF 'gamehallkeep2.RegretMatched'. -/
def regretMatchedCard : Claim7 := { stood := { row := regretMatchedRow, standIns := [], harness := (true, "01fbb469cf8b0980b89ab124d6c951f307d4b37b82991b3a2bba3582623a25d4"), looks := true }, kinds := [], alts := [], laidByText := true, laidKinds := [.data, .data, .data, .data, .sentinel, .sentinel, .pinned], laidTests := true, laidLooks := .later }
def RegretMatchedCardSaid : Prop := Claim7.holds Tryz.pinned (.plain (OpenSpec.ofChange regretMatchedSpec)) regretMatchedCard

/-- THE TIED CARD OF 'gamehallkeep2.RegretZero'. -/
def regretZeroCard : Claim7 := { stood := { row := regretZeroRow, standIns := [], harness := (true, "01fbb469cf8b0980b89ab124d6c951f307d4b37b82991b3a2bba3582623a25d4"), looks := true }, kinds := [], alts := [], laidByText := true, laidKinds := [.data, .data, .data, .data, .sentinel, .sentinel, .pinned], laidTests := true, laidLooks := .later }
def RegretZeroCardSaid : Prop := Claim7.holds Tryz.pinned (.plain (OpenSpec.ofChange regretZeroSpec)) regretZeroCard

/-- THE TIED CARD OF 'gamehallkeep2.MatrixRing'. -/
def matrixRingCard : Claim7 := { stood := { row := matrixRingRow, standIns := [], harness := (true, "01fbb469cf8b0980b89ab124d6c951f307d4b37b82991b3a2bba3582623a25d4"), looks := true }, kinds := [], alts := [], laidByText := true, laidKinds := [.data, .data, .data, .data, .sentinel, .sentinel, .pinned], laidTests := true, laidLooks := .later }
def MatrixRingCardSaid : Prop := Claim7.holds Tryz.pinned (.plain (OpenSpec.ofChange matrixRingSpec)) matrixRingCard

/-- THE TIED CARD OF 'gamehallkeep2.MatrixTurns'. -/
def matrixTurnsCard : Claim7 := { stood := { row := matrixTurnsRow, standIns := [], harness := (true, "01fbb469cf8b0980b89ab124d6c951f307d4b37b82991b3a2bba3582623a25d4"), looks := true }, kinds := [], alts := [], laidByText := true, laidKinds := [.data, .data, .data, .data, .sentinel, .sentinel, .pinned], laidTests := true, laidLooks := .later }
def MatrixTurnsCardSaid : Prop := Claim7.holds Tryz.pinned (.plain (OpenSpec.ofChange matrixTurnsSpec)) matrixTurnsCard

/-- THE TIED CARD OF 'gamehallkeep2.MatrixKinds'. -/
def matrixKindsCard : Claim7 := { stood := { row := matrixKindsRow, standIns := [], harness := (true, "01fbb469cf8b0980b89ab124d6c951f307d4b37b82991b3a2bba3582623a25d4"), looks := true }, kinds := [], alts := [], laidByText := true, laidKinds := [.data, .data, .data, .data, .sentinel, .sentinel, .pinned], laidTests := true, laidLooks := .later }
def MatrixKindsCardSaid : Prop := Claim7.holds Tryz.pinned (.plain (OpenSpec.ofChange matrixKindsSpec)) matrixKindsCard

/-- THE TIED CARD OF 'gamehallkeep2.RecallAlone'. -/
def recallAloneCard : Claim7 := { stood := { row := recallAloneRow, standIns := [], harness := (true, "01fbb469cf8b0980b89ab124d6c951f307d4b37b82991b3a2bba3582623a25d4"), looks := true }, kinds := [], alts := [], laidByText := true, laidKinds := [.data, .data, .data, .data, .sentinel, .sentinel, .pinned], laidTests := true, laidLooks := .later }
def RecallAloneCardSaid : Prop := Claim7.holds Tryz.pinned (.plain (OpenSpec.ofChange recallAloneSpec)) recallAloneCard

/-- THE TIED CARD OF 'gamehallkeep2.RecallNumbers'. -/
def recallNumbersCard : Claim7 := { stood := { row := recallNumbersRow, standIns := [], harness := (true, "01fbb469cf8b0980b89ab124d6c951f307d4b37b82991b3a2bba3582623a25d4"), looks := true }, kinds := [], alts := [], laidByText := true, laidKinds := [.data, .data, .data, .data, .sentinel, .sentinel, .pinned], laidTests := true, laidLooks := .later }
def RecallNumbersCardSaid : Prop := Claim7.holds Tryz.pinned (.plain (OpenSpec.ofChange recallNumbersSpec)) recallNumbersCard

/-- THE TIED CARD OF 'gamehallkeep2.RecallSums'. -/
def recallSumsCard : Claim7 := { stood := { row := recallSumsRow, standIns := [], harness := (true, "01fbb469cf8b0980b89ab124d6c951f307d4b37b82991b3a2bba3582623a25d4"), looks := true }, kinds := [], alts := [], laidByText := true, laidKinds := [.data, .data, .data, .data, .sentinel, .sentinel, .pinned], laidTests := true, laidLooks := .later }
def RecallSumsCardSaid : Prop := Claim7.holds Tryz.pinned (.plain (OpenSpec.ofChange recallSumsSpec)) recallSumsCard

/-- THE TIED CARD OF 'gamehallkeep2.ReplyGets'. -/
def replyGetsCard : Claim7 := { stood := { row := replyGetsRow, standIns := [], harness := (true, "01fbb469cf8b0980b89ab124d6c951f307d4b37b82991b3a2bba3582623a25d4"), looks := true }, kinds := [], alts := [], laidByText := true, laidKinds := [.data, .data, .data, .data, .sentinel, .sentinel, .pinned], laidTests := true, laidLooks := .later }
def ReplyGetsCardSaid : Prop := Claim7.holds Tryz.pinned (.plain (OpenSpec.ofChange replyGetsSpec)) replyGetsCard

/-- THE TIED CARD OF 'gamehallkeep2.ReplyEnds'. -/
def replyEndsCard : Claim7 := { stood := { row := replyEndsRow, standIns := [], harness := (true, "01fbb469cf8b0980b89ab124d6c951f307d4b37b82991b3a2bba3582623a25d4"), looks := true }, kinds := [], alts := [], laidByText := true, laidKinds := [.data, .data, .data, .data, .sentinel, .sentinel, .pinned], laidTests := true, laidLooks := .later }
def ReplyEndsCardSaid : Prop := Claim7.holds Tryz.pinned (.plain (OpenSpec.ofChange replyEndsSpec)) replyEndsCard

/-- THE TIED CARD OF 'gamehallkeep2.ReplyMost'. -/
def replyMostCard : Claim7 := { stood := { row := replyMostRow, standIns := [], harness := (true, "01fbb469cf8b0980b89ab124d6c951f307d4b37b82991b3a2bba3582623a25d4"), looks := true }, kinds := [], alts := [], laidByText := true, laidKinds := [.data, .data, .data, .data, .sentinel, .sentinel, .pinned], laidTests := true, laidLooks := .later }
def ReplyMostCardSaid : Prop := Claim7.holds Tryz.pinned (.plain (OpenSpec.ofChange replyMostSpec)) replyMostCard

/-- THE SECOND FORM's CARD OF 'gamehallkeep2.RegretContinues'. -/
def regretContinuesUptoCard : Claim7 := { stood := { row := regretContinuesUptoRow, standIns := [], harness := (true, "01fbb469cf8b0980b89ab124d6c951f307d4b37b82991b3a2bba3582623a25d4"), looks := true }, kinds := [], alts := [], laidByText := true, laidKinds := [.data, .data, .data, .data, .sentinel, .sentinel, .pinned], laidTests := true, laidLooks := .later }
def RegretContinuesUptoCardSaid : Prop := Claim7.holds Tryz.pinned (.plain (OpenSpec.upto regretContinuesSpec)) regretContinuesUptoCard

/-- THE SECOND FORM's CARD OF 'gamehallkeep2.RegretMatched'. -/
def regretMatchedUptoCard : Claim7 := { stood := { row := regretMatchedUptoRow, standIns := [], harness := (true, "01fbb469cf8b0980b89ab124d6c951f307d4b37b82991b3a2bba3582623a25d4"), looks := true }, kinds := [], alts := [], laidByText := true, laidKinds := [.data, .data, .data, .data, .sentinel, .sentinel, .pinned], laidTests := true, laidLooks := .later }
def RegretMatchedUptoCardSaid : Prop := Claim7.holds Tryz.pinned (.plain (OpenSpec.upto regretMatchedSpec)) regretMatchedUptoCard

/-- THE SECOND FORM's CARD OF 'gamehallkeep2.RegretZero'. -/
def regretZeroUptoCard : Claim7 := { stood := { row := regretZeroUptoRow, standIns := [], harness := (true, "01fbb469cf8b0980b89ab124d6c951f307d4b37b82991b3a2bba3582623a25d4"), looks := true }, kinds := [], alts := [], laidByText := true, laidKinds := [.data, .data, .data, .data, .sentinel, .sentinel, .pinned], laidTests := true, laidLooks := .later }
def RegretZeroUptoCardSaid : Prop := Claim7.holds Tryz.pinned (.plain (OpenSpec.upto regretZeroSpec)) regretZeroUptoCard

/-- THE SECOND FORM's CARD OF 'gamehallkeep2.MatrixRing'. -/
def matrixRingUptoCard : Claim7 := { stood := { row := matrixRingUptoRow, standIns := [], harness := (true, "01fbb469cf8b0980b89ab124d6c951f307d4b37b82991b3a2bba3582623a25d4"), looks := true }, kinds := [], alts := [], laidByText := true, laidKinds := [.data, .data, .data, .data, .sentinel, .sentinel, .pinned], laidTests := true, laidLooks := .later }
def MatrixRingUptoCardSaid : Prop := Claim7.holds Tryz.pinned (.plain (OpenSpec.upto matrixRingSpec)) matrixRingUptoCard

/-- THE SECOND FORM's CARD OF 'gamehallkeep2.MatrixTurns'. -/
def matrixTurnsUptoCard : Claim7 := { stood := { row := matrixTurnsUptoRow, standIns := [], harness := (true, "01fbb469cf8b0980b89ab124d6c951f307d4b37b82991b3a2bba3582623a25d4"), looks := true }, kinds := [], alts := [], laidByText := true, laidKinds := [.data, .data, .data, .data, .sentinel, .sentinel, .pinned], laidTests := true, laidLooks := .later }
def MatrixTurnsUptoCardSaid : Prop := Claim7.holds Tryz.pinned (.plain (OpenSpec.upto matrixTurnsSpec)) matrixTurnsUptoCard

/-- THE SECOND FORM's CARD OF 'gamehallkeep2.MatrixKinds'. -/
def matrixKindsUptoCard : Claim7 := { stood := { row := matrixKindsUptoRow, standIns := [], harness := (true, "01fbb469cf8b0980b89ab124d6c951f307d4b37b82991b3a2bba3582623a25d4"), looks := true }, kinds := [], alts := [], laidByText := true, laidKinds := [.data, .data, .data, .data, .sentinel, .sentinel, .pinned], laidTests := true, laidLooks := .later }
def MatrixKindsUptoCardSaid : Prop := Claim7.holds Tryz.pinned (.plain (OpenSpec.upto matrixKindsSpec)) matrixKindsUptoCard

/-- THE SECOND FORM's CARD OF 'gamehallkeep2.RecallAlone'. -/
def recallAloneUptoCard : Claim7 := { stood := { row := recallAloneUptoRow, standIns := [], harness := (true, "01fbb469cf8b0980b89ab124d6c951f307d4b37b82991b3a2bba3582623a25d4"), looks := true }, kinds := [], alts := [], laidByText := true, laidKinds := [.data, .data, .data, .data, .sentinel, .sentinel, .pinned], laidTests := true, laidLooks := .later }
def RecallAloneUptoCardSaid : Prop := Claim7.holds Tryz.pinned (.plain (OpenSpec.upto recallAloneSpec)) recallAloneUptoCard

/-- THE SECOND FORM's CARD OF 'gamehallkeep2.RecallNumbers'. -/
def recallNumbersUptoCard : Claim7 := { stood := { row := recallNumbersUptoRow, standIns := [], harness := (true, "01fbb469cf8b0980b89ab124d6c951f307d4b37b82991b3a2bba3582623a25d4"), looks := true }, kinds := [], alts := [], laidByText := true, laidKinds := [.data, .data, .data, .data, .sentinel, .sentinel, .pinned], laidTests := true, laidLooks := .later }
def RecallNumbersUptoCardSaid : Prop := Claim7.holds Tryz.pinned (.plain (OpenSpec.upto recallNumbersSpec)) recallNumbersUptoCard

/-- THE SECOND FORM's CARD OF 'gamehallkeep2.RecallSums'. -/
def recallSumsUptoCard : Claim7 := { stood := { row := recallSumsUptoRow, standIns := [], harness := (true, "01fbb469cf8b0980b89ab124d6c951f307d4b37b82991b3a2bba3582623a25d4"), looks := true }, kinds := [], alts := [], laidByText := true, laidKinds := [.data, .data, .data, .data, .sentinel, .sentinel, .pinned], laidTests := true, laidLooks := .later }
def RecallSumsUptoCardSaid : Prop := Claim7.holds Tryz.pinned (.plain (OpenSpec.upto recallSumsSpec)) recallSumsUptoCard

/-- THE SECOND FORM's CARD OF 'gamehallkeep2.ReplyGets'. -/
def replyGetsUptoCard : Claim7 := { stood := { row := replyGetsUptoRow, standIns := [], harness := (true, "01fbb469cf8b0980b89ab124d6c951f307d4b37b82991b3a2bba3582623a25d4"), looks := true }, kinds := [], alts := [], laidByText := true, laidKinds := [.data, .data, .data, .data, .sentinel, .sentinel, .pinned], laidTests := true, laidLooks := .later }
def ReplyGetsUptoCardSaid : Prop := Claim7.holds Tryz.pinned (.plain (OpenSpec.upto replyGetsSpec)) replyGetsUptoCard

/-- THE SECOND FORM's CARD OF 'gamehallkeep2.ReplyEnds'. -/
def replyEndsUptoCard : Claim7 := { stood := { row := replyEndsUptoRow, standIns := [], harness := (true, "01fbb469cf8b0980b89ab124d6c951f307d4b37b82991b3a2bba3582623a25d4"), looks := true }, kinds := [], alts := [], laidByText := true, laidKinds := [.data, .data, .data, .data, .sentinel, .sentinel, .pinned], laidTests := true, laidLooks := .later }
def ReplyEndsUptoCardSaid : Prop := Claim7.holds Tryz.pinned (.plain (OpenSpec.upto replyEndsSpec)) replyEndsUptoCard

/-- THE SECOND FORM's CARD OF 'gamehallkeep2.ReplyMost'. -/
def replyMostUptoCard : Claim7 := { stood := { row := replyMostUptoRow, standIns := [], harness := (true, "01fbb469cf8b0980b89ab124d6c951f307d4b37b82991b3a2bba3582623a25d4"), looks := true }, kinds := [], alts := [], laidByText := true, laidKinds := [.data, .data, .data, .data, .sentinel, .sentinel, .pinned], laidTests := true, laidLooks := .later }
def ReplyMostUptoCardSaid : Prop := Claim7.holds Tryz.pinned (.plain (OpenSpec.upto replyMostSpec)) replyMostUptoCard
end Rows
end Go.Proofs.YtgmleamhjnlknaaGreatDoor
