/-
  DERIVED. GIVEN WITH THE SEED: THE CARDS: each row of YtnkealfaldjipaaGreatDoorRows.lean that lists a variable, with what it lists TIED to the program's text (the seventh form; the later family's looks); each row that meets fmt, with fmt's text TOLD by the authors' own Lean function (tested against real Go, not proved from fmt's source: count such statements apart). THE CARD IS WHAT COUNTS. Prove the row's statement (the work); the ties are given (YtnkealfaldjipaaGreatDoorTie.lean); close each card by the builder's one call (the guide's Derived/Test/ToyasCard.lean, 'card_holds'). Laid BY PROGRAM, IN A SANDBOX (cutbox-door.mjs). By AI agents, Wed Nov 11 2026. No macro, syntax, notation, axiom, sorry.
-/
import Derived.Test.YtnkealfaldjipaaGreatDoorRows
import GoSem.ClaimSeven
namespace Go.Proofs.YtnkealfaldjipaaGreatDoor
namespace Rows

/-- THE TIED CARD OF 'gamehallkeep2.ReplyGets'. -/
def replyGetsCard : Claim7 := { stood := { row := replyGetsRow, standIns := [], harness := (true, "9a7b365347614a0287077179d20768685206a4b5ee48bcf94245b18e3653b2c2"), looks := true }, kinds := [], alts := [], laidByText := true, laidKinds := [.data, .data, .data, .data, .sentinel, .sentinel, .pinned], laidTests := true, laidLooks := .later }
def ReplyGetsCardSaid : Prop := Claim7.holds Tryz.pinned (.plain (OpenSpec.ofChange replyGetsSpec)) replyGetsCard

/-- THE TIED CARD OF 'gamehallkeep2.ReplyEnds'. -/
def replyEndsCard : Claim7 := { stood := { row := replyEndsRow, standIns := [], harness := (true, "9a7b365347614a0287077179d20768685206a4b5ee48bcf94245b18e3653b2c2"), looks := true }, kinds := [], alts := [], laidByText := true, laidKinds := [.data, .data, .data, .data, .sentinel, .sentinel, .pinned], laidTests := true, laidLooks := .later }
def ReplyEndsCardSaid : Prop := Claim7.holds Tryz.pinned (.plain (OpenSpec.ofChange replyEndsSpec)) replyEndsCard

/-- THE TIED CARD OF 'gamehallkeep2.ReplyMost'. -/
def replyMostCard : Claim7 := { stood := { row := replyMostRow, standIns := [], harness := (true, "9a7b365347614a0287077179d20768685206a4b5ee48bcf94245b18e3653b2c2"), looks := true }, kinds := [], alts := [], laidByText := true, laidKinds := [.data, .data, .data, .data, .sentinel, .sentinel, .pinned], laidTests := true, laidLooks := .later }
def ReplyMostCardSaid : Prop := Claim7.holds Tryz.pinned (.plain (OpenSpec.ofChange replyMostSpec)) replyMostCard

/-- THE TIED CARD OF 'gamehallkeep2.ExploitVerifies'. -/
def exploitVerifiesCard : Claim7 := { stood := { row := exploitVerifiesRow, standIns := [], harness := (true, "9a7b365347614a0287077179d20768685206a4b5ee48bcf94245b18e3653b2c2"), looks := true }, kinds := [], alts := [], laidByText := true, laidKinds := [.data, .data, .data, .data, .sentinel, .sentinel, .pinned], laidTests := true, laidLooks := .later }
def ExploitVerifiesCardSaid : Prop := Claim7.holds Tryz.pinned (.plain (OpenSpec.ofChange exploitVerifiesSpec)) exploitVerifiesCard

/-- THE TIED CARD OF 'gamehallkeep2.ExploitGains'. -/
def exploitGainsCard : Claim7 := { stood := { row := exploitGainsRow, standIns := [], harness := (true, "9a7b365347614a0287077179d20768685206a4b5ee48bcf94245b18e3653b2c2"), looks := true }, kinds := [], alts := [], laidByText := true, laidKinds := [.data, .data, .data, .data, .sentinel, .sentinel, .pinned], laidTests := true, laidLooks := .later }
def ExploitGainsCardSaid : Prop := Claim7.holds Tryz.pinned (.plain (OpenSpec.ofChange exploitGainsSpec)) exploitGainsCard

/-- THE TIED CARD OF 'gamehallkeep2.ConvertBack'. -/
def convertBackCard : Claim7 := { stood := { row := convertBackRow, standIns := [], harness := (true, "9a7b365347614a0287077179d20768685206a4b5ee48bcf94245b18e3653b2c2"), looks := true }, kinds := [], alts := [], laidByText := true, laidKinds := [.data, .data, .data, .data, .sentinel, .sentinel, .pinned], laidTests := true, laidLooks := .later }
def ConvertBackCardSaid : Prop := Claim7.holds Tryz.pinned (.plain (OpenSpec.ofChange convertBackSpec)) convertBackCard

/-- THE TIED CARD OF 'gamehallkeep2.ConvertEqual'. -/
def convertEqualCard : Claim7 := { stood := { row := convertEqualRow, standIns := [], harness := (true, "9a7b365347614a0287077179d20768685206a4b5ee48bcf94245b18e3653b2c2"), looks := true }, kinds := [], alts := [], laidByText := true, laidKinds := [.data, .data, .data, .data, .sentinel, .sentinel, .pinned], laidTests := true, laidLooks := .later }
def ConvertEqualCardSaid : Prop := Claim7.holds Tryz.pinned (.plain (OpenSpec.ofChange convertEqualSpec)) convertEqualCard

/-- THE TIED CARD OF 'gamehallkeep2.ConvertPays'. -/
def convertPaysCard : Claim7 := { stood := { row := convertPaysRow, standIns := [], harness := (true, "9a7b365347614a0287077179d20768685206a4b5ee48bcf94245b18e3653b2c2"), looks := true }, kinds := [], alts := [], laidByText := true, laidKinds := [.data, .data, .data, .data, .sentinel, .sentinel, .pinned], laidTests := true, laidLooks := .later }
def ConvertPaysCardSaid : Prop := Claim7.holds Tryz.pinned (.plain (OpenSpec.ofChange convertPaysSpec)) convertPaysCard

/-- THE TIED CARD OF 'gamehallkeep2.SimplexProves'. -/
def simplexProvesCard : Claim7 := { stood := { row := simplexProvesRow, standIns := [], harness := (true, "9a7b365347614a0287077179d20768685206a4b5ee48bcf94245b18e3653b2c2"), looks := true }, kinds := [], alts := [], laidByText := true, laidKinds := [.data, .data, .data, .data, .sentinel, .sentinel, .pinned], laidTests := true, laidLooks := .later }
def SimplexProvesCardSaid : Prop := Claim7.holds Tryz.pinned (.plain (OpenSpec.ofChange simplexProvesSpec)) simplexProvesCard

/-- THE TIED CARD OF 'gamehallkeep2.SimplexRefuses'. -/
def simplexRefusesCard : Claim7 := { stood := { row := simplexRefusesRow, standIns := [], harness := (true, "9a7b365347614a0287077179d20768685206a4b5ee48bcf94245b18e3653b2c2"), looks := true }, kinds := [], alts := [], laidByText := true, laidKinds := [.data, .data, .data, .data, .sentinel, .sentinel, .pinned], laidTests := true, laidLooks := .later }
def SimplexRefusesCardSaid : Prop := Claim7.holds Tryz.pinned (.plain (OpenSpec.ofChange simplexRefusesSpec)) simplexRefusesCard

/-- THE TIED CARD OF 'gamehallkeep2.SimplexDuals'. -/
def simplexDualsCard : Claim7 := { stood := { row := simplexDualsRow, standIns := [], harness := (true, "9a7b365347614a0287077179d20768685206a4b5ee48bcf94245b18e3653b2c2"), looks := true }, kinds := [], alts := [], laidByText := true, laidKinds := [.data, .data, .data, .data, .sentinel, .sentinel, .pinned], laidTests := true, laidLooks := .later }
def SimplexDualsCardSaid : Prop := Claim7.holds Tryz.pinned (.plain (OpenSpec.ofChange simplexDualsSpec)) simplexDualsCard

/-- THE TIED CARD OF 'gamehallkeep2.SimplexBounds'. -/
def simplexBoundsCard : Claim7 := { stood := { row := simplexBoundsRow, standIns := [], harness := (true, "9a7b365347614a0287077179d20768685206a4b5ee48bcf94245b18e3653b2c2"), looks := true }, kinds := [], alts := [], laidByText := true, laidKinds := [.data, .data, .data, .data, .sentinel, .sentinel, .pinned], laidTests := true, laidLooks := .later }
def SimplexBoundsCardSaid : Prop := Claim7.holds Tryz.pinned (.plain (OpenSpec.ofChange simplexBoundsSpec)) simplexBoundsCard

/-- THE SECOND FORM's CARD OF 'gamehallkeep2.ReplyGets'. -/
def replyGetsUptoCard : Claim7 := { stood := { row := replyGetsUptoRow, standIns := [], harness := (true, "9a7b365347614a0287077179d20768685206a4b5ee48bcf94245b18e3653b2c2"), looks := true }, kinds := [], alts := [], laidByText := true, laidKinds := [.data, .data, .data, .data, .sentinel, .sentinel, .pinned], laidTests := true, laidLooks := .later }
def ReplyGetsUptoCardSaid : Prop := Claim7.holds Tryz.pinned (.plain (OpenSpec.upto replyGetsSpec)) replyGetsUptoCard

/-- THE SECOND FORM's CARD OF 'gamehallkeep2.ReplyEnds'. -/
def replyEndsUptoCard : Claim7 := { stood := { row := replyEndsUptoRow, standIns := [], harness := (true, "9a7b365347614a0287077179d20768685206a4b5ee48bcf94245b18e3653b2c2"), looks := true }, kinds := [], alts := [], laidByText := true, laidKinds := [.data, .data, .data, .data, .sentinel, .sentinel, .pinned], laidTests := true, laidLooks := .later }
def ReplyEndsUptoCardSaid : Prop := Claim7.holds Tryz.pinned (.plain (OpenSpec.upto replyEndsSpec)) replyEndsUptoCard

/-- THE SECOND FORM's CARD OF 'gamehallkeep2.ReplyMost'. -/
def replyMostUptoCard : Claim7 := { stood := { row := replyMostUptoRow, standIns := [], harness := (true, "9a7b365347614a0287077179d20768685206a4b5ee48bcf94245b18e3653b2c2"), looks := true }, kinds := [], alts := [], laidByText := true, laidKinds := [.data, .data, .data, .data, .sentinel, .sentinel, .pinned], laidTests := true, laidLooks := .later }
def ReplyMostUptoCardSaid : Prop := Claim7.holds Tryz.pinned (.plain (OpenSpec.upto replyMostSpec)) replyMostUptoCard

/-- THE SECOND FORM's CARD OF 'gamehallkeep2.ExploitVerifies'. -/
def exploitVerifiesUptoCard : Claim7 := { stood := { row := exploitVerifiesUptoRow, standIns := [], harness := (true, "9a7b365347614a0287077179d20768685206a4b5ee48bcf94245b18e3653b2c2"), looks := true }, kinds := [], alts := [], laidByText := true, laidKinds := [.data, .data, .data, .data, .sentinel, .sentinel, .pinned], laidTests := true, laidLooks := .later }
def ExploitVerifiesUptoCardSaid : Prop := Claim7.holds Tryz.pinned (.plain (OpenSpec.upto exploitVerifiesSpec)) exploitVerifiesUptoCard

/-- THE SECOND FORM's CARD OF 'gamehallkeep2.ExploitGains'. -/
def exploitGainsUptoCard : Claim7 := { stood := { row := exploitGainsUptoRow, standIns := [], harness := (true, "9a7b365347614a0287077179d20768685206a4b5ee48bcf94245b18e3653b2c2"), looks := true }, kinds := [], alts := [], laidByText := true, laidKinds := [.data, .data, .data, .data, .sentinel, .sentinel, .pinned], laidTests := true, laidLooks := .later }
def ExploitGainsUptoCardSaid : Prop := Claim7.holds Tryz.pinned (.plain (OpenSpec.upto exploitGainsSpec)) exploitGainsUptoCard

/-- THE SECOND FORM's CARD OF 'gamehallkeep2.ConvertBack'. -/
def convertBackUptoCard : Claim7 := { stood := { row := convertBackUptoRow, standIns := [], harness := (true, "9a7b365347614a0287077179d20768685206a4b5ee48bcf94245b18e3653b2c2"), looks := true }, kinds := [], alts := [], laidByText := true, laidKinds := [.data, .data, .data, .data, .sentinel, .sentinel, .pinned], laidTests := true, laidLooks := .later }
def ConvertBackUptoCardSaid : Prop := Claim7.holds Tryz.pinned (.plain (OpenSpec.upto convertBackSpec)) convertBackUptoCard

/-- THE SECOND FORM's CARD OF 'gamehallkeep2.ConvertEqual'. -/
def convertEqualUptoCard : Claim7 := { stood := { row := convertEqualUptoRow, standIns := [], harness := (true, "9a7b365347614a0287077179d20768685206a4b5ee48bcf94245b18e3653b2c2"), looks := true }, kinds := [], alts := [], laidByText := true, laidKinds := [.data, .data, .data, .data, .sentinel, .sentinel, .pinned], laidTests := true, laidLooks := .later }
def ConvertEqualUptoCardSaid : Prop := Claim7.holds Tryz.pinned (.plain (OpenSpec.upto convertEqualSpec)) convertEqualUptoCard

/-- THE SECOND FORM's CARD OF 'gamehallkeep2.ConvertPays'. -/
def convertPaysUptoCard : Claim7 := { stood := { row := convertPaysUptoRow, standIns := [], harness := (true, "9a7b365347614a0287077179d20768685206a4b5ee48bcf94245b18e3653b2c2"), looks := true }, kinds := [], alts := [], laidByText := true, laidKinds := [.data, .data, .data, .data, .sentinel, .sentinel, .pinned], laidTests := true, laidLooks := .later }
def ConvertPaysUptoCardSaid : Prop := Claim7.holds Tryz.pinned (.plain (OpenSpec.upto convertPaysSpec)) convertPaysUptoCard

/-- THE SECOND FORM's CARD OF 'gamehallkeep2.SimplexProves'. -/
def simplexProvesUptoCard : Claim7 := { stood := { row := simplexProvesUptoRow, standIns := [], harness := (true, "9a7b365347614a0287077179d20768685206a4b5ee48bcf94245b18e3653b2c2"), looks := true }, kinds := [], alts := [], laidByText := true, laidKinds := [.data, .data, .data, .data, .sentinel, .sentinel, .pinned], laidTests := true, laidLooks := .later }
def SimplexProvesUptoCardSaid : Prop := Claim7.holds Tryz.pinned (.plain (OpenSpec.upto simplexProvesSpec)) simplexProvesUptoCard

/-- THE SECOND FORM's CARD OF 'gamehallkeep2.SimplexRefuses'. -/
def simplexRefusesUptoCard : Claim7 := { stood := { row := simplexRefusesUptoRow, standIns := [], harness := (true, "9a7b365347614a0287077179d20768685206a4b5ee48bcf94245b18e3653b2c2"), looks := true }, kinds := [], alts := [], laidByText := true, laidKinds := [.data, .data, .data, .data, .sentinel, .sentinel, .pinned], laidTests := true, laidLooks := .later }
def SimplexRefusesUptoCardSaid : Prop := Claim7.holds Tryz.pinned (.plain (OpenSpec.upto simplexRefusesSpec)) simplexRefusesUptoCard

/-- THE SECOND FORM's CARD OF 'gamehallkeep2.SimplexDuals'. -/
def simplexDualsUptoCard : Claim7 := { stood := { row := simplexDualsUptoRow, standIns := [], harness := (true, "9a7b365347614a0287077179d20768685206a4b5ee48bcf94245b18e3653b2c2"), looks := true }, kinds := [], alts := [], laidByText := true, laidKinds := [.data, .data, .data, .data, .sentinel, .sentinel, .pinned], laidTests := true, laidLooks := .later }
def SimplexDualsUptoCardSaid : Prop := Claim7.holds Tryz.pinned (.plain (OpenSpec.upto simplexDualsSpec)) simplexDualsUptoCard

/-- THE SECOND FORM's CARD OF 'gamehallkeep2.SimplexBounds'. -/
def simplexBoundsUptoCard : Claim7 := { stood := { row := simplexBoundsUptoRow, standIns := [], harness := (true, "9a7b365347614a0287077179d20768685206a4b5ee48bcf94245b18e3653b2c2"), looks := true }, kinds := [], alts := [], laidByText := true, laidKinds := [.data, .data, .data, .data, .sentinel, .sentinel, .pinned], laidTests := true, laidLooks := .later }
def SimplexBoundsUptoCardSaid : Prop := Claim7.holds Tryz.pinned (.plain (OpenSpec.upto simplexBoundsSpec)) simplexBoundsUptoCard
end Rows
end Go.Proofs.YtnkealfaldjipaaGreatDoor
