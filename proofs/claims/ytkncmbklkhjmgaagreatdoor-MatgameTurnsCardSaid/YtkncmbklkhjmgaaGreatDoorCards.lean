/-
  DERIVED. GIVEN WITH THE SEED: THE CARDS: each row of YtkncmbklkhjmgaaGreatDoorRows.lean that lists a variable, with what it lists TIED to the program's text (the seventh form; the later family's looks); each row that meets fmt, with fmt's text TOLD by the authors' own Lean function (tested against real Go, not proved from fmt's source: count such statements apart). THE CARD IS WHAT COUNTS. Prove the row's statement (the work); the ties are given (YtkncmbklkhjmgaaGreatDoorTie.lean); close each card by the builder's one call (the guide's Derived/Test/ToyasCard.lean, 'card_holds'). Laid BY PROGRAM, IN A SANDBOX (cutbox-door.mjs). By AI agents, Wed Nov 11 2026. No macro, syntax, notation, axiom, sorry.
-/
import Derived.Test.YtkncmbklkhjmgaaGreatDoorRows
import GoSem.ClaimSeven
namespace Go.Proofs.YtkncmbklkhjmgaaGreatDoor
namespace Rows

/-- THE TIED CARD OF 'gamehallkeep2.MatgameProves'. -/
def matgameProvesCard : Claim7 := { stood := { row := matgameProvesRow, standIns := [], harness := (true, "3ea313bfc84e18d7a14057297d76a6f07cbc7b38cde80ce9b3cbed387549a276"), looks := true }, kinds := [], alts := [], laidByText := true, laidKinds := [.data, .data, .data, .data, .sentinel, .sentinel, .pinned], laidTests := true, laidLooks := .later }
def MatgameProvesCardSaid : Prop := Claim7.holds Tryz.pinned (.plain (OpenSpec.ofChange matgameProvesSpec)) matgameProvesCard

/-- THE TIED CARD OF 'gamehallkeep2.MatgameSafe'. -/
def matgameSafeCard : Claim7 := { stood := { row := matgameSafeRow, standIns := [], harness := (true, "3ea313bfc84e18d7a14057297d76a6f07cbc7b38cde80ce9b3cbed387549a276"), looks := true }, kinds := [], alts := [], laidByText := true, laidKinds := [.data, .data, .data, .data, .sentinel, .sentinel, .pinned], laidTests := true, laidLooks := .later }
def MatgameSafeCardSaid : Prop := Claim7.holds Tryz.pinned (.plain (OpenSpec.ofChange matgameSafeSpec)) matgameSafeCard

/-- THE TIED CARD OF 'gamehallkeep2.MatgameDrops'. -/
def matgameDropsCard : Claim7 := { stood := { row := matgameDropsRow, standIns := [], harness := (true, "3ea313bfc84e18d7a14057297d76a6f07cbc7b38cde80ce9b3cbed387549a276"), looks := true }, kinds := [], alts := [], laidByText := true, laidKinds := [.data, .data, .data, .data, .sentinel, .sentinel, .pinned], laidTests := true, laidLooks := .later }
def MatgameDropsCardSaid : Prop := Claim7.holds Tryz.pinned (.plain (OpenSpec.ofChange matgameDropsSpec)) matgameDropsCard

/-- THE TIED CARD OF 'gamehallkeep2.MatgameShifts'. -/
def matgameShiftsCard : Claim7 := { stood := { row := matgameShiftsRow, standIns := [], harness := (true, "3ea313bfc84e18d7a14057297d76a6f07cbc7b38cde80ce9b3cbed387549a276"), looks := true }, kinds := [], alts := [], laidByText := true, laidKinds := [.data, .data, .data, .data, .sentinel, .sentinel, .pinned], laidTests := true, laidLooks := .later }
def MatgameShiftsCardSaid : Prop := Claim7.holds Tryz.pinned (.plain (OpenSpec.ofChange matgameShiftsSpec)) matgameShiftsCard

/-- THE TIED CARD OF 'gamehallkeep2.MatgameTurns'. -/
def matgameTurnsCard : Claim7 := { stood := { row := matgameTurnsRow, standIns := [], harness := (true, "3ea313bfc84e18d7a14057297d76a6f07cbc7b38cde80ce9b3cbed387549a276"), looks := true }, kinds := [], alts := [], laidByText := true, laidKinds := [.data, .data, .data, .data, .sentinel, .sentinel, .pinned], laidTests := true, laidLooks := .later }
def MatgameTurnsCardSaid : Prop := Claim7.holds Tryz.pinned (.plain (OpenSpec.ofChange matgameTurnsSpec)) matgameTurnsCard

/-- THE TIED CARD OF 'gamehallkeep2.RegretBounds'. -/
def regretBoundsCard : Claim7 := { stood := { row := regretBoundsRow, standIns := [], harness := (true, "3ea313bfc84e18d7a14057297d76a6f07cbc7b38cde80ce9b3cbed387549a276"), looks := true }, kinds := [], alts := [], laidByText := true, laidKinds := [.data, .data, .data, .data, .sentinel, .sentinel, .pinned], laidTests := true, laidLooks := .later }
def RegretBoundsCardSaid : Prop := Claim7.holds Tryz.pinned (.plain (OpenSpec.ofChange regretBoundsSpec)) regretBoundsCard

/-- THE TIED CARD OF 'gamehallkeep2.TreeReads'. -/
def treeReadsCard : Claim7 := { stood := { row := treeReadsRow, standIns := [], harness := (true, "3ea313bfc84e18d7a14057297d76a6f07cbc7b38cde80ce9b3cbed387549a276"), looks := true }, kinds := [], alts := [], laidByText := true, laidKinds := [.data, .data, .data, .data, .sentinel, .sentinel, .pinned], laidTests := true, laidLooks := .later }
def TreeReadsCardSaid : Prop := Claim7.holds Tryz.pinned (.plain (OpenSpec.ofChange treeReadsSpec)) treeReadsCard

/-- THE TIED CARD OF 'gamehallkeep2.TreeBack'. -/
def treeBackCard : Claim7 := { stood := { row := treeBackRow, standIns := [], harness := (true, "3ea313bfc84e18d7a14057297d76a6f07cbc7b38cde80ce9b3cbed387549a276"), looks := true }, kinds := [], alts := [], laidByText := true, laidKinds := [.data, .data, .data, .data, .sentinel, .sentinel, .pinned], laidTests := true, laidLooks := .later }
def TreeBackCardSaid : Prop := Claim7.holds Tryz.pinned (.plain (OpenSpec.ofChange treeBackSpec)) treeBackCard

/-- THE TIED CARD OF 'gamehallkeep2.SeqformScales'. -/
def seqformScalesCard : Claim7 := { stood := { row := seqformScalesRow, standIns := [], harness := (true, "3ea313bfc84e18d7a14057297d76a6f07cbc7b38cde80ce9b3cbed387549a276"), looks := true }, kinds := [], alts := [], laidByText := true, laidKinds := [.data, .data, .data, .data, .sentinel, .sentinel, .pinned], laidTests := true, laidLooks := .later }
def SeqformScalesCardSaid : Prop := Claim7.holds Tryz.pinned (.plain (OpenSpec.ofChange seqformScalesSpec)) seqformScalesCard

/-- THE TIED CARD OF 'gamehallkeep2.SeqformSwaps'. -/
def seqformSwapsCard : Claim7 := { stood := { row := seqformSwapsRow, standIns := [], harness := (true, "3ea313bfc84e18d7a14057297d76a6f07cbc7b38cde80ce9b3cbed387549a276"), looks := true }, kinds := [], alts := [], laidByText := true, laidKinds := [.data, .data, .data, .data, .sentinel, .sentinel, .pinned], laidTests := true, laidLooks := .later }
def SeqformSwapsCardSaid : Prop := Claim7.holds Tryz.pinned (.plain (OpenSpec.ofChange seqformSwapsSpec)) seqformSwapsCard

/-- THE TIED CARD OF 'gamehallkeep2.SeqformPays'. -/
def seqformPaysCard : Claim7 := { stood := { row := seqformPaysRow, standIns := [], harness := (true, "3ea313bfc84e18d7a14057297d76a6f07cbc7b38cde80ce9b3cbed387549a276"), looks := true }, kinds := [], alts := [], laidByText := true, laidKinds := [.data, .data, .data, .data, .sentinel, .sentinel, .pinned], laidTests := true, laidLooks := .later }
def SeqformPaysCardSaid : Prop := Claim7.holds Tryz.pinned (.plain (OpenSpec.ofChange seqformPaysSpec)) seqformPaysCard

/-- THE TIED CARD OF 'gamehallkeep2.SeqformProves'. -/
def seqformProvesCard : Claim7 := { stood := { row := seqformProvesRow, standIns := [], harness := (true, "3ea313bfc84e18d7a14057297d76a6f07cbc7b38cde80ce9b3cbed387549a276"), looks := true }, kinds := [], alts := [], laidByText := true, laidKinds := [.data, .data, .data, .data, .sentinel, .sentinel, .pinned], laidTests := true, laidLooks := .later }
def SeqformProvesCardSaid : Prop := Claim7.holds Tryz.pinned (.plain (OpenSpec.ofChange seqformProvesSpec)) seqformProvesCard

/-- THE SECOND FORM's CARD OF 'gamehallkeep2.MatgameProves'. -/
def matgameProvesUptoCard : Claim7 := { stood := { row := matgameProvesUptoRow, standIns := [], harness := (true, "3ea313bfc84e18d7a14057297d76a6f07cbc7b38cde80ce9b3cbed387549a276"), looks := true }, kinds := [], alts := [], laidByText := true, laidKinds := [.data, .data, .data, .data, .sentinel, .sentinel, .pinned], laidTests := true, laidLooks := .later }
def MatgameProvesUptoCardSaid : Prop := Claim7.holds Tryz.pinned (.plain (OpenSpec.upto matgameProvesSpec)) matgameProvesUptoCard

/-- THE SECOND FORM's CARD OF 'gamehallkeep2.MatgameSafe'. -/
def matgameSafeUptoCard : Claim7 := { stood := { row := matgameSafeUptoRow, standIns := [], harness := (true, "3ea313bfc84e18d7a14057297d76a6f07cbc7b38cde80ce9b3cbed387549a276"), looks := true }, kinds := [], alts := [], laidByText := true, laidKinds := [.data, .data, .data, .data, .sentinel, .sentinel, .pinned], laidTests := true, laidLooks := .later }
def MatgameSafeUptoCardSaid : Prop := Claim7.holds Tryz.pinned (.plain (OpenSpec.upto matgameSafeSpec)) matgameSafeUptoCard

/-- THE SECOND FORM's CARD OF 'gamehallkeep2.MatgameDrops'. -/
def matgameDropsUptoCard : Claim7 := { stood := { row := matgameDropsUptoRow, standIns := [], harness := (true, "3ea313bfc84e18d7a14057297d76a6f07cbc7b38cde80ce9b3cbed387549a276"), looks := true }, kinds := [], alts := [], laidByText := true, laidKinds := [.data, .data, .data, .data, .sentinel, .sentinel, .pinned], laidTests := true, laidLooks := .later }
def MatgameDropsUptoCardSaid : Prop := Claim7.holds Tryz.pinned (.plain (OpenSpec.upto matgameDropsSpec)) matgameDropsUptoCard

/-- THE SECOND FORM's CARD OF 'gamehallkeep2.MatgameShifts'. -/
def matgameShiftsUptoCard : Claim7 := { stood := { row := matgameShiftsUptoRow, standIns := [], harness := (true, "3ea313bfc84e18d7a14057297d76a6f07cbc7b38cde80ce9b3cbed387549a276"), looks := true }, kinds := [], alts := [], laidByText := true, laidKinds := [.data, .data, .data, .data, .sentinel, .sentinel, .pinned], laidTests := true, laidLooks := .later }
def MatgameShiftsUptoCardSaid : Prop := Claim7.holds Tryz.pinned (.plain (OpenSpec.upto matgameShiftsSpec)) matgameShiftsUptoCard

/-- THE SECOND FORM's CARD OF 'gamehallkeep2.MatgameTurns'. -/
def matgameTurnsUptoCard : Claim7 := { stood := { row := matgameTurnsUptoRow, standIns := [], harness := (true, "3ea313bfc84e18d7a14057297d76a6f07cbc7b38cde80ce9b3cbed387549a276"), looks := true }, kinds := [], alts := [], laidByText := true, laidKinds := [.data, .data, .data, .data, .sentinel, .sentinel, .pinned], laidTests := true, laidLooks := .later }
def MatgameTurnsUptoCardSaid : Prop := Claim7.holds Tryz.pinned (.plain (OpenSpec.upto matgameTurnsSpec)) matgameTurnsUptoCard

/-- THE SECOND FORM's CARD OF 'gamehallkeep2.RegretBounds'. -/
def regretBoundsUptoCard : Claim7 := { stood := { row := regretBoundsUptoRow, standIns := [], harness := (true, "3ea313bfc84e18d7a14057297d76a6f07cbc7b38cde80ce9b3cbed387549a276"), looks := true }, kinds := [], alts := [], laidByText := true, laidKinds := [.data, .data, .data, .data, .sentinel, .sentinel, .pinned], laidTests := true, laidLooks := .later }
def RegretBoundsUptoCardSaid : Prop := Claim7.holds Tryz.pinned (.plain (OpenSpec.upto regretBoundsSpec)) regretBoundsUptoCard

/-- THE SECOND FORM's CARD OF 'gamehallkeep2.TreeReads'. -/
def treeReadsUptoCard : Claim7 := { stood := { row := treeReadsUptoRow, standIns := [], harness := (true, "3ea313bfc84e18d7a14057297d76a6f07cbc7b38cde80ce9b3cbed387549a276"), looks := true }, kinds := [], alts := [], laidByText := true, laidKinds := [.data, .data, .data, .data, .sentinel, .sentinel, .pinned], laidTests := true, laidLooks := .later }
def TreeReadsUptoCardSaid : Prop := Claim7.holds Tryz.pinned (.plain (OpenSpec.upto treeReadsSpec)) treeReadsUptoCard

/-- THE SECOND FORM's CARD OF 'gamehallkeep2.TreeBack'. -/
def treeBackUptoCard : Claim7 := { stood := { row := treeBackUptoRow, standIns := [], harness := (true, "3ea313bfc84e18d7a14057297d76a6f07cbc7b38cde80ce9b3cbed387549a276"), looks := true }, kinds := [], alts := [], laidByText := true, laidKinds := [.data, .data, .data, .data, .sentinel, .sentinel, .pinned], laidTests := true, laidLooks := .later }
def TreeBackUptoCardSaid : Prop := Claim7.holds Tryz.pinned (.plain (OpenSpec.upto treeBackSpec)) treeBackUptoCard

/-- THE SECOND FORM's CARD OF 'gamehallkeep2.SeqformScales'. -/
def seqformScalesUptoCard : Claim7 := { stood := { row := seqformScalesUptoRow, standIns := [], harness := (true, "3ea313bfc84e18d7a14057297d76a6f07cbc7b38cde80ce9b3cbed387549a276"), looks := true }, kinds := [], alts := [], laidByText := true, laidKinds := [.data, .data, .data, .data, .sentinel, .sentinel, .pinned], laidTests := true, laidLooks := .later }
def SeqformScalesUptoCardSaid : Prop := Claim7.holds Tryz.pinned (.plain (OpenSpec.upto seqformScalesSpec)) seqformScalesUptoCard

/-- THE SECOND FORM's CARD OF 'gamehallkeep2.SeqformSwaps'. -/
def seqformSwapsUptoCard : Claim7 := { stood := { row := seqformSwapsUptoRow, standIns := [], harness := (true, "3ea313bfc84e18d7a14057297d76a6f07cbc7b38cde80ce9b3cbed387549a276"), looks := true }, kinds := [], alts := [], laidByText := true, laidKinds := [.data, .data, .data, .data, .sentinel, .sentinel, .pinned], laidTests := true, laidLooks := .later }
def SeqformSwapsUptoCardSaid : Prop := Claim7.holds Tryz.pinned (.plain (OpenSpec.upto seqformSwapsSpec)) seqformSwapsUptoCard

/-- THE SECOND FORM's CARD OF 'gamehallkeep2.SeqformPays'. -/
def seqformPaysUptoCard : Claim7 := { stood := { row := seqformPaysUptoRow, standIns := [], harness := (true, "3ea313bfc84e18d7a14057297d76a6f07cbc7b38cde80ce9b3cbed387549a276"), looks := true }, kinds := [], alts := [], laidByText := true, laidKinds := [.data, .data, .data, .data, .sentinel, .sentinel, .pinned], laidTests := true, laidLooks := .later }
def SeqformPaysUptoCardSaid : Prop := Claim7.holds Tryz.pinned (.plain (OpenSpec.upto seqformPaysSpec)) seqformPaysUptoCard

/-- THE SECOND FORM's CARD OF 'gamehallkeep2.SeqformProves'. -/
def seqformProvesUptoCard : Claim7 := { stood := { row := seqformProvesUptoRow, standIns := [], harness := (true, "3ea313bfc84e18d7a14057297d76a6f07cbc7b38cde80ce9b3cbed387549a276"), looks := true }, kinds := [], alts := [], laidByText := true, laidKinds := [.data, .data, .data, .data, .sentinel, .sentinel, .pinned], laidTests := true, laidLooks := .later }
def SeqformProvesUptoCardSaid : Prop := Claim7.holds Tryz.pinned (.plain (OpenSpec.upto seqformProvesSpec)) seqformProvesUptoCard
end Rows
end Go.Proofs.YtkncmbklkhjmgaaGreatDoor
