/-
  DERIVED. GIVEN WITH THE SEED: THE CARDS: each row of YtiifcejepaeepaaGreatDoorRows.lean that lists a variable, with what it lists TIED to the program's text (the seventh form; the later family's looks); each row that meets fmt, with fmt's text TOLD by the authors' own Lean function (tested against real Go, not proved from fmt's source: count such statements apart). THE CARD IS WHAT COUNTS. Prove the row's statement (the work); the ties are given (YtiifcejepaeepaaGreatDoorTie.lean); close each card by the builder's one call (the guide's Derived/Test/ToyasCard.lean, 'card_holds'). Laid BY PROGRAM, IN A SANDBOX (cutbox-door.mjs). By AI agents, Wed Nov 11 2026. No macro, syntax, notation, axiom, sorry.
-/
import Derived.Test.YtiifcejepaeepaaGreatDoorRows
import GoSem.ClaimSeven
namespace Go.Proofs.YtiifcejepaeepaaGreatDoor
namespace Rows

/-- THE TIED CARD OF 'gamehallkeep2.RetroLongest'. -/
def retroLongestCard : Claim7 := { stood := { row := retroLongestRow, standIns := [], harness := (true, "2ce54dd2d931fe3267d45603db6cf7fe51a52f562ad782d581866e6a342fe84b"), looks := false }, kinds := [], alts := [], laidByText := true, laidKinds := [.data, .data, .data], laidTests := true, laidLooks := .later }
def RetroLongestCardSaid : Prop := Claim7.holds Tryz.pinned (.plain (OpenSpec.ofChange retroLongestSpec)) retroLongestCard

/-- THE TIED CARD OF 'gamehallkeep2.RetroFollows'. -/
def retroFollowsCard : Claim7 := { stood := { row := retroFollowsRow, standIns := [], harness := (true, "2ce54dd2d931fe3267d45603db6cf7fe51a52f562ad782d581866e6a342fe84b"), looks := false }, kinds := [], alts := [], laidByText := true, laidKinds := [.data, .data, .data], laidTests := true, laidLooks := .later }
def RetroFollowsCardSaid : Prop := Claim7.holds Tryz.pinned (.plain (OpenSpec.ofChange retroFollowsSpec)) retroFollowsCard

/-- THE TIED CARD OF 'gamehallkeep2.RetroBests'. -/
def retroBestsCard : Claim7 := { stood := { row := retroBestsRow, standIns := [], harness := (true, "2ce54dd2d931fe3267d45603db6cf7fe51a52f562ad782d581866e6a342fe84b"), looks := false }, kinds := [], alts := [], laidByText := true, laidKinds := [.data, .data, .data], laidTests := true, laidLooks := .later }
def RetroBestsCardSaid : Prop := Claim7.holds Tryz.pinned (.plain (OpenSpec.ofChange retroBestsSpec)) retroBestsCard

/-- THE TIED CARD OF 'gamehallkeep2.RetroClosed'. -/
def retroClosedCard : Claim7 := { stood := { row := retroClosedRow, standIns := [], harness := (true, "2ce54dd2d931fe3267d45603db6cf7fe51a52f562ad782d581866e6a342fe84b"), looks := false }, kinds := [], alts := [], laidByText := true, laidKinds := [.data, .data, .data], laidTests := true, laidLooks := .later }
def RetroClosedCardSaid : Prop := Claim7.holds Tryz.pinned (.plain (OpenSpec.ofChange retroClosedSpec)) retroClosedCard

/-- THE TIED CARD OF 'gamehallkeep2.PuzzleSingles'. -/
def puzzleSinglesCard : Claim7 := { stood := { row := puzzleSinglesRow, standIns := [], harness := (true, "2ce54dd2d931fe3267d45603db6cf7fe51a52f562ad782d581866e6a342fe84b"), looks := false }, kinds := [], alts := [], laidByText := true, laidKinds := [.data, .data, .data], laidTests := true, laidLooks := .later }
def PuzzleSinglesCardSaid : Prop := Claim7.holds Tryz.pinned (.plain (OpenSpec.ofChange puzzleSinglesSpec)) puzzleSinglesCard

/-- THE TIED CARD OF 'gamehallkeep2.PuzzleProves'. -/
def puzzleProvesCard : Claim7 := { stood := { row := puzzleProvesRow, standIns := [], harness := (true, "2ce54dd2d931fe3267d45603db6cf7fe51a52f562ad782d581866e6a342fe84b"), looks := false }, kinds := [], alts := [], laidByText := true, laidKinds := [.data, .data, .data], laidTests := true, laidLooks := .later }
def PuzzleProvesCardSaid : Prop := Claim7.holds Tryz.pinned (.plain (OpenSpec.ofChange puzzleProvesSpec)) puzzleProvesCard

/-- THE TIED CARD OF 'gamehallkeep2.PuzzleRefuses'. -/
def puzzleRefusesCard : Claim7 := { stood := { row := puzzleRefusesRow, standIns := [], harness := (true, "2ce54dd2d931fe3267d45603db6cf7fe51a52f562ad782d581866e6a342fe84b"), looks := false }, kinds := [], alts := [], laidByText := true, laidKinds := [.data, .data, .data], laidTests := true, laidLooks := .later }
def PuzzleRefusesCardSaid : Prop := Claim7.holds Tryz.pinned (.plain (OpenSpec.ofChange puzzleRefusesSpec)) puzzleRefusesCard

/-- THE TIED CARD OF 'gamehallkeep2.PuzzleComposes'. -/
def puzzleComposesCard : Claim7 := { stood := { row := puzzleComposesRow, standIns := [], harness := (true, "2ce54dd2d931fe3267d45603db6cf7fe51a52f562ad782d581866e6a342fe84b"), looks := false }, kinds := [], alts := [], laidByText := true, laidKinds := [.data, .data, .data], laidTests := true, laidLooks := .later }
def PuzzleComposesCardSaid : Prop := Claim7.holds Tryz.pinned (.plain (OpenSpec.ofChange puzzleComposesSpec)) puzzleComposesCard

/-- THE TIED CARD OF 'gamehallkeep2.PuzzleChecks'. -/
def puzzleChecksCard : Claim7 := { stood := { row := puzzleChecksRow, standIns := [], harness := (true, "2ce54dd2d931fe3267d45603db6cf7fe51a52f562ad782d581866e6a342fe84b"), looks := false }, kinds := [], alts := [], laidByText := true, laidKinds := [.data, .data, .data], laidTests := true, laidLooks := .later }
def PuzzleChecksCardSaid : Prop := Claim7.holds Tryz.pinned (.plain (OpenSpec.ofChange puzzleChecksSpec)) puzzleChecksCard

/-- THE TIED CARD OF 'gamehallkeep2.PuzzleWins'. -/
def puzzleWinsCard : Claim7 := { stood := { row := puzzleWinsRow, standIns := [], harness := (true, "2ce54dd2d931fe3267d45603db6cf7fe51a52f562ad782d581866e6a342fe84b"), looks := false }, kinds := [], alts := [], laidByText := true, laidKinds := [.data, .data, .data], laidTests := true, laidLooks := .later }
def PuzzleWinsCardSaid : Prop := Claim7.holds Tryz.pinned (.plain (OpenSpec.ofChange puzzleWinsSpec)) puzzleWinsCard

/-- THE SECOND FORM's CARD OF 'gamehallkeep2.RetroLongest'. -/
def retroLongestUptoCard : Claim7 := { stood := { row := retroLongestUptoRow, standIns := [], harness := (true, "2ce54dd2d931fe3267d45603db6cf7fe51a52f562ad782d581866e6a342fe84b"), looks := false }, kinds := [], alts := [], laidByText := true, laidKinds := [.data, .data, .data], laidTests := true, laidLooks := .later }
def RetroLongestUptoCardSaid : Prop := Claim7.holds Tryz.pinned (.plain (OpenSpec.upto retroLongestSpec)) retroLongestUptoCard

/-- THE SECOND FORM's CARD OF 'gamehallkeep2.RetroFollows'. -/
def retroFollowsUptoCard : Claim7 := { stood := { row := retroFollowsUptoRow, standIns := [], harness := (true, "2ce54dd2d931fe3267d45603db6cf7fe51a52f562ad782d581866e6a342fe84b"), looks := false }, kinds := [], alts := [], laidByText := true, laidKinds := [.data, .data, .data], laidTests := true, laidLooks := .later }
def RetroFollowsUptoCardSaid : Prop := Claim7.holds Tryz.pinned (.plain (OpenSpec.upto retroFollowsSpec)) retroFollowsUptoCard

/-- THE SECOND FORM's CARD OF 'gamehallkeep2.RetroBests'. -/
def retroBestsUptoCard : Claim7 := { stood := { row := retroBestsUptoRow, standIns := [], harness := (true, "2ce54dd2d931fe3267d45603db6cf7fe51a52f562ad782d581866e6a342fe84b"), looks := false }, kinds := [], alts := [], laidByText := true, laidKinds := [.data, .data, .data], laidTests := true, laidLooks := .later }
def RetroBestsUptoCardSaid : Prop := Claim7.holds Tryz.pinned (.plain (OpenSpec.upto retroBestsSpec)) retroBestsUptoCard

/-- THE SECOND FORM's CARD OF 'gamehallkeep2.RetroClosed'. -/
def retroClosedUptoCard : Claim7 := { stood := { row := retroClosedUptoRow, standIns := [], harness := (true, "2ce54dd2d931fe3267d45603db6cf7fe51a52f562ad782d581866e6a342fe84b"), looks := false }, kinds := [], alts := [], laidByText := true, laidKinds := [.data, .data, .data], laidTests := true, laidLooks := .later }
def RetroClosedUptoCardSaid : Prop := Claim7.holds Tryz.pinned (.plain (OpenSpec.upto retroClosedSpec)) retroClosedUptoCard

/-- THE SECOND FORM's CARD OF 'gamehallkeep2.PuzzleSingles'. -/
def puzzleSinglesUptoCard : Claim7 := { stood := { row := puzzleSinglesUptoRow, standIns := [], harness := (true, "2ce54dd2d931fe3267d45603db6cf7fe51a52f562ad782d581866e6a342fe84b"), looks := false }, kinds := [], alts := [], laidByText := true, laidKinds := [.data, .data, .data], laidTests := true, laidLooks := .later }
def PuzzleSinglesUptoCardSaid : Prop := Claim7.holds Tryz.pinned (.plain (OpenSpec.upto puzzleSinglesSpec)) puzzleSinglesUptoCard

/-- THE SECOND FORM's CARD OF 'gamehallkeep2.PuzzleProves'. -/
def puzzleProvesUptoCard : Claim7 := { stood := { row := puzzleProvesUptoRow, standIns := [], harness := (true, "2ce54dd2d931fe3267d45603db6cf7fe51a52f562ad782d581866e6a342fe84b"), looks := false }, kinds := [], alts := [], laidByText := true, laidKinds := [.data, .data, .data], laidTests := true, laidLooks := .later }
def PuzzleProvesUptoCardSaid : Prop := Claim7.holds Tryz.pinned (.plain (OpenSpec.upto puzzleProvesSpec)) puzzleProvesUptoCard

/-- THE SECOND FORM's CARD OF 'gamehallkeep2.PuzzleRefuses'. -/
def puzzleRefusesUptoCard : Claim7 := { stood := { row := puzzleRefusesUptoRow, standIns := [], harness := (true, "2ce54dd2d931fe3267d45603db6cf7fe51a52f562ad782d581866e6a342fe84b"), looks := false }, kinds := [], alts := [], laidByText := true, laidKinds := [.data, .data, .data], laidTests := true, laidLooks := .later }
def PuzzleRefusesUptoCardSaid : Prop := Claim7.holds Tryz.pinned (.plain (OpenSpec.upto puzzleRefusesSpec)) puzzleRefusesUptoCard

/-- THE SECOND FORM's CARD OF 'gamehallkeep2.PuzzleComposes'. -/
def puzzleComposesUptoCard : Claim7 := { stood := { row := puzzleComposesUptoRow, standIns := [], harness := (true, "2ce54dd2d931fe3267d45603db6cf7fe51a52f562ad782d581866e6a342fe84b"), looks := false }, kinds := [], alts := [], laidByText := true, laidKinds := [.data, .data, .data], laidTests := true, laidLooks := .later }
def PuzzleComposesUptoCardSaid : Prop := Claim7.holds Tryz.pinned (.plain (OpenSpec.upto puzzleComposesSpec)) puzzleComposesUptoCard

/-- THE SECOND FORM's CARD OF 'gamehallkeep2.PuzzleChecks'. -/
def puzzleChecksUptoCard : Claim7 := { stood := { row := puzzleChecksUptoRow, standIns := [], harness := (true, "2ce54dd2d931fe3267d45603db6cf7fe51a52f562ad782d581866e6a342fe84b"), looks := false }, kinds := [], alts := [], laidByText := true, laidKinds := [.data, .data, .data], laidTests := true, laidLooks := .later }
def PuzzleChecksUptoCardSaid : Prop := Claim7.holds Tryz.pinned (.plain (OpenSpec.upto puzzleChecksSpec)) puzzleChecksUptoCard

/-- THE SECOND FORM's CARD OF 'gamehallkeep2.PuzzleWins'. -/
def puzzleWinsUptoCard : Claim7 := { stood := { row := puzzleWinsUptoRow, standIns := [], harness := (true, "2ce54dd2d931fe3267d45603db6cf7fe51a52f562ad782d581866e6a342fe84b"), looks := false }, kinds := [], alts := [], laidByText := true, laidKinds := [.data, .data, .data], laidTests := true, laidLooks := .later }
def PuzzleWinsUptoCardSaid : Prop := Claim7.holds Tryz.pinned (.plain (OpenSpec.upto puzzleWinsSpec)) puzzleWinsUptoCard
end Rows
end Go.Proofs.YtiifcejepaeepaaGreatDoor
