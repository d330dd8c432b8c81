/-
  DERIVED. GIVEN WITH THE SEED: THE CARDS: each row of YtmfhdfofmdggaaaDoorRows.lean that lists a variable, with what it lists TIED to the program's text (the seventh form; the later family's looks); each row that meets fmt, with fmt's text TOLD by the authors' own Lean function (tested against real Go, not proved from fmt's source: count such statements apart). THE CARD IS WHAT COUNTS. Prove the row's statement (the work); the ties are given (YtmfhdfofmdggaaaDoorTie.lean); close each card by the builder's one call (the guide's Derived/Test/ToyasCard.lean, 'card_holds'). Laid BY PROGRAM, IN A SANDBOX (cutbox-door.mjs). By AI agents, Wed Nov 11 2026. No macro, syntax, notation, axiom, sorry.
-/
import Derived.Test.YtmfhdfofmdggaaaDoorRows
import GoSem.ClaimSeven
namespace Go.Proofs.YtmfhdfofmdggaaaDoor
namespace Rows

/-- THE TIED CARD OF 'gamehallkeep2.CardsBack'. -/
def cardsBackCard : Claim7 := { stood := { row := cardsBackRow, standIns := [], harness := (true, "3ed8e63f4df339e59d018c20b864f861c4bfdbf8c95c24fd7edb7be583d528a8"), looks := false }, kinds := [], alts := [], laidByText := true, laidKinds := [.data, .pinned], laidTests := true, laidLooks := .later }
def CardsBackCardSaid : Prop := Claim7.holds Tryd.pinned (.plain (OpenSpec.ofChange cardsBackSpec)) cardsBackCard

/-- THE TIED CARD OF 'gamehallkeep2.CardsEach'. -/
def cardsEachCard : Claim7 := { stood := { row := cardsEachRow, standIns := [], harness := (true, "3ed8e63f4df339e59d018c20b864f861c4bfdbf8c95c24fd7edb7be583d528a8"), looks := false }, kinds := [], alts := [], laidByText := true, laidKinds := [.data, .pinned], laidTests := true, laidLooks := .later }
def CardsEachCardSaid : Prop := Claim7.holds Tryd.pinned (.plain (OpenSpec.ofChange cardsEachSpec)) cardsEachCard

/-- THE TIED CARD OF 'gamehallkeep2.CardsCuts'. -/
def cardsCutsCard : Claim7 := { stood := { row := cardsCutsRow, standIns := [], harness := (true, "3ed8e63f4df339e59d018c20b864f861c4bfdbf8c95c24fd7edb7be583d528a8"), looks := false }, kinds := [], alts := [], laidByText := true, laidKinds := [.data, .pinned], laidTests := true, laidLooks := .later }
def CardsCutsCardSaid : Prop := Claim7.holds Tryd.pinned (.plain (OpenSpec.ofChange cardsCutsSpec)) cardsCutsCard

/-- THE TIED CARD OF 'gamehallkeep2.CardsReads'. -/
def cardsReadsCard : Claim7 := { stood := { row := cardsReadsRow, standIns := [], harness := (true, "3ed8e63f4df339e59d018c20b864f861c4bfdbf8c95c24fd7edb7be583d528a8"), looks := false }, kinds := [], alts := [], laidByText := true, laidKinds := [.data, .pinned], laidTests := true, laidLooks := .later }
def CardsReadsCardSaid : Prop := Claim7.holds Tryd.pinned (.plain (OpenSpec.ofChange cardsReadsSpec)) cardsReadsCard

/-- THE TIED CARD OF 'gamehallkeep2.DealHonest'. -/
def dealHonestCard : Claim7 := { stood := { row := dealHonestRow, standIns := [], harness := (true, "3ed8e63f4df339e59d018c20b864f861c4bfdbf8c95c24fd7edb7be583d528a8"), looks := false }, kinds := [], alts := [], laidByText := true, laidKinds := [.data, .pinned], laidTests := true, laidLooks := .later }
def DealHonestCardSaid : Prop := Claim7.holds Tryd.pinned (.plain (OpenSpec.ofChange dealHonestSpec)) dealHonestCard

/-- THE TIED CARD OF 'gamehallkeep2.DealEach'. -/
def dealEachCard : Claim7 := { stood := { row := dealEachRow, standIns := [], harness := (true, "3ed8e63f4df339e59d018c20b864f861c4bfdbf8c95c24fd7edb7be583d528a8"), looks := false }, kinds := [], alts := [], laidByText := true, laidKinds := [.data, .pinned], laidTests := true, laidLooks := .later }
def DealEachCardSaid : Prop := Claim7.holds Tryd.pinned (.plain (OpenSpec.ofChange dealEachSpec)) dealEachCard

/-- THE TIED CARD OF 'gamehallkeep2.DealFalse'. -/
def dealFalseCard : Claim7 := { stood := { row := dealFalseRow, standIns := [], harness := (true, "3ed8e63f4df339e59d018c20b864f861c4bfdbf8c95c24fd7edb7be583d528a8"), looks := false }, kinds := [], alts := [], laidByText := true, laidKinds := [.data, .pinned], laidTests := true, laidLooks := .later }
def DealFalseCardSaid : Prop := Claim7.holds Tryd.pinned (.plain (OpenSpec.ofChange dealFalseSpec)) dealFalseCard

/-- THE SECOND FORM's CARD OF 'gamehallkeep2.CardsBack'. -/
def cardsBackUptoCard : Claim7 := { stood := { row := cardsBackUptoRow, standIns := [], harness := (true, "3ed8e63f4df339e59d018c20b864f861c4bfdbf8c95c24fd7edb7be583d528a8"), looks := false }, kinds := [], alts := [], laidByText := true, laidKinds := [.data, .pinned], laidTests := true, laidLooks := .later }
def CardsBackUptoCardSaid : Prop := Claim7.holds Tryd.pinned (.plain (OpenSpec.upto cardsBackSpec)) cardsBackUptoCard

/-- THE SECOND FORM's CARD OF 'gamehallkeep2.CardsEach'. -/
def cardsEachUptoCard : Claim7 := { stood := { row := cardsEachUptoRow, standIns := [], harness := (true, "3ed8e63f4df339e59d018c20b864f861c4bfdbf8c95c24fd7edb7be583d528a8"), looks := false }, kinds := [], alts := [], laidByText := true, laidKinds := [.data, .pinned], laidTests := true, laidLooks := .later }
def CardsEachUptoCardSaid : Prop := Claim7.holds Tryd.pinned (.plain (OpenSpec.upto cardsEachSpec)) cardsEachUptoCard

/-- THE SECOND FORM's CARD OF 'gamehallkeep2.CardsCuts'. -/
def cardsCutsUptoCard : Claim7 := { stood := { row := cardsCutsUptoRow, standIns := [], harness := (true, "3ed8e63f4df339e59d018c20b864f861c4bfdbf8c95c24fd7edb7be583d528a8"), looks := false }, kinds := [], alts := [], laidByText := true, laidKinds := [.data, .pinned], laidTests := true, laidLooks := .later }
def CardsCutsUptoCardSaid : Prop := Claim7.holds Tryd.pinned (.plain (OpenSpec.upto cardsCutsSpec)) cardsCutsUptoCard

/-- THE SECOND FORM's CARD OF 'gamehallkeep2.CardsReads'. -/
def cardsReadsUptoCard : Claim7 := { stood := { row := cardsReadsUptoRow, standIns := [], harness := (true, "3ed8e63f4df339e59d018c20b864f861c4bfdbf8c95c24fd7edb7be583d528a8"), looks := false }, kinds := [], alts := [], laidByText := true, laidKinds := [.data, .pinned], laidTests := true, laidLooks := .later }
def CardsReadsUptoCardSaid : Prop := Claim7.holds Tryd.pinned (.plain (OpenSpec.upto cardsReadsSpec)) cardsReadsUptoCard

/-- THE SECOND FORM's CARD OF 'gamehallkeep2.DealHonest'. -/
def dealHonestUptoCard : Claim7 := { stood := { row := dealHonestUptoRow, standIns := [], harness := (true, "3ed8e63f4df339e59d018c20b864f861c4bfdbf8c95c24fd7edb7be583d528a8"), looks := false }, kinds := [], alts := [], laidByText := true, laidKinds := [.data, .pinned], laidTests := true, laidLooks := .later }
def DealHonestUptoCardSaid : Prop := Claim7.holds Tryd.pinned (.plain (OpenSpec.upto dealHonestSpec)) dealHonestUptoCard

/-- THE SECOND FORM's CARD OF 'gamehallkeep2.DealEach'. -/
def dealEachUptoCard : Claim7 := { stood := { row := dealEachUptoRow, standIns := [], harness := (true, "3ed8e63f4df339e59d018c20b864f861c4bfdbf8c95c24fd7edb7be583d528a8"), looks := false }, kinds := [], alts := [], laidByText := true, laidKinds := [.data, .pinned], laidTests := true, laidLooks := .later }
def DealEachUptoCardSaid : Prop := Claim7.holds Tryd.pinned (.plain (OpenSpec.upto dealEachSpec)) dealEachUptoCard

/-- THE SECOND FORM's CARD OF 'gamehallkeep2.DealFalse'. -/
def dealFalseUptoCard : Claim7 := { stood := { row := dealFalseUptoRow, standIns := [], harness := (true, "3ed8e63f4df339e59d018c20b864f861c4bfdbf8c95c24fd7edb7be583d528a8"), looks := false }, kinds := [], alts := [], laidByText := true, laidKinds := [.data, .pinned], laidTests := true, laidLooks := .later }
def DealFalseUptoCardSaid : Prop := Claim7.holds Tryd.pinned (.plain (OpenSpec.upto dealFalseSpec)) dealFalseUptoCard
end Rows
end Go.Proofs.YtmfhdfofmdggaaaDoor
