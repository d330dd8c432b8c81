/-
  DERIVED. GIVEN WITH THE SEED: THE CARDS: each row of YtmpnheilfejcpaaGreatDoorRows.lean that lists a variable, with what it lists TIED to the program's text (the seventh form; the later family's looks); each row that meets fmt, with fmt's text TOLD by the authors' own Lean function (tested against real Go, not proved from fmt's source: count such statements apart). THE CARD IS WHAT COUNTS. Prove the row's statement (the work); the ties are given (YtmpnheilfejcpaaGreatDoorTie.lean); close each card by the builder's one call (the guide's Derived/Test/ToyasCard.lean, 'card_holds'). Laid BY PROGRAM, IN A SANDBOX (cutbox-door.mjs). By AI agents, Wed Nov 11 2026. No macro, syntax, notation, axiom, sorry.
-/
import Derived.Test.YtmpnheilfejcpaaGreatDoorRows
import GoSem.ClaimSeven
namespace Go.Proofs.YtmpnheilfejcpaaGreatDoor
namespace Rows

/-- THE TIED CARD OF 'gamehallkeep2.RegretBounds'. -/
def regretBoundsCard : Claim7 := { stood := { row := regretBoundsRow, standIns := [], harness := (true, "acf05f998fa0f73d7b0569be8554ee5e8ec0e83714fa8b3b66b8d0b0e6545610"), looks := true }, kinds := [], alts := [], laidByText := true, laidKinds := [.data, .data, .data, .data, .sentinel, .sentinel, .pinned], laidTests := true, laidLooks := .later }
def RegretBoundsCardSaid : Prop := Claim7.holds Tryz.pinned (.plain (OpenSpec.ofChange regretBoundsSpec)) regretBoundsCard

/-- THE TIED CARD OF 'gamehallkeep2.SeqformScales'. -/
def seqformScalesCard : Claim7 := { stood := { row := seqformScalesRow, standIns := [], harness := (true, "acf05f998fa0f73d7b0569be8554ee5e8ec0e83714fa8b3b66b8d0b0e6545610"), looks := true }, kinds := [], alts := [], laidByText := true, laidKinds := [.data, .data, .data, .data, .sentinel, .sentinel, .pinned], laidTests := true, laidLooks := .later }
def SeqformScalesCardSaid : Prop := Claim7.holds Tryz.pinned (.plain (OpenSpec.ofChange seqformScalesSpec)) seqformScalesCard

/-- THE TIED CARD OF 'gamehallkeep2.SeqformSwaps'. -/
def seqformSwapsCard : Claim7 := { stood := { row := seqformSwapsRow, standIns := [], harness := (true, "acf05f998fa0f73d7b0569be8554ee5e8ec0e83714fa8b3b66b8d0b0e6545610"), looks := true }, kinds := [], alts := [], laidByText := true, laidKinds := [.data, .data, .data, .data, .sentinel, .sentinel, .pinned], laidTests := true, laidLooks := .later }
def SeqformSwapsCardSaid : Prop := Claim7.holds Tryz.pinned (.plain (OpenSpec.ofChange seqformSwapsSpec)) seqformSwapsCard

/-- THE TIED CARD OF 'gamehallkeep2.SeqformPays'. -/
def seqformPaysCard : Claim7 := { stood := { row := seqformPaysRow, standIns := [], harness := (true, "acf05f998fa0f73d7b0569be8554ee5e8ec0e83714fa8b3b66b8d0b0e6545610"), looks := true }, kinds := [], alts := [], laidByText := true, laidKinds := [.data, .data, .data, .data, .sentinel, .sentinel, .pinned], laidTests := true, laidLooks := .later }
def SeqformPaysCardSaid : Prop := Claim7.holds Tryz.pinned (.plain (OpenSpec.ofChange seqformPaysSpec)) seqformPaysCard

/-- THE TIED CARD OF 'gamehallkeep2.SeqformProves'. -/
def seqformProvesCard : Claim7 := { stood := { row := seqformProvesRow, standIns := [], harness := (true, "acf05f998fa0f73d7b0569be8554ee5e8ec0e83714fa8b3b66b8d0b0e6545610"), looks := true }, kinds := [], alts := [], laidByText := true, laidKinds := [.data, .data, .data, .data, .sentinel, .sentinel, .pinned], laidTests := true, laidLooks := .later }
def SeqformProvesCardSaid : Prop := Claim7.holds Tryz.pinned (.plain (OpenSpec.ofChange seqformProvesSpec)) seqformProvesCard

/-- THE TIED CARD OF 'gamehallkeep2.ExploitOne'. -/
def exploitOneCard : Claim7 := { stood := { row := exploitOneRow, standIns := [], harness := (true, "acf05f998fa0f73d7b0569be8554ee5e8ec0e83714fa8b3b66b8d0b0e6545610"), looks := true }, kinds := [], alts := [], laidByText := true, laidKinds := [.data, .data, .data, .data, .sentinel, .sentinel, .pinned], laidTests := true, laidLooks := .later }
def ExploitOneCardSaid : Prop := Claim7.holds Tryz.pinned (.plain (OpenSpec.ofChange exploitOneSpec)) exploitOneCard

/-- THE TIED CARD OF 'gamehalltop.TopEquilibrium'. -/
def topEquilibriumCard : Claim7 := { stood := { row := topEquilibriumRow, standIns := [], harness := (true, "acf05f998fa0f73d7b0569be8554ee5e8ec0e83714fa8b3b66b8d0b0e6545610"), looks := true }, kinds := [], alts := [], laidByText := true, laidKinds := [.data, .data, .data, .data, .sentinel, .sentinel, .pinned], laidTests := true, laidLooks := .later }
def TopEquilibriumCardSaid : Prop := Claim7.holds Tryz.pinned (.plain (OpenSpec.ofChange topEquilibriumSpec)) topEquilibriumCard

/-- THE TIED CARD OF 'gamehalltop.TopValue'. -/
def topValueCard : Claim7 := { stood := { row := topValueRow, standIns := [], harness := (true, "acf05f998fa0f73d7b0569be8554ee5e8ec0e83714fa8b3b66b8d0b0e6545610"), looks := true }, kinds := [], alts := [], laidByText := true, laidKinds := [.data, .data, .data, .data, .sentinel, .sentinel, .pinned], laidTests := true, laidLooks := .later }
def TopValueCardSaid : Prop := Claim7.holds Tryz.pinned (.plain (OpenSpec.ofChange topValueSpec)) topValueCard

/-- THE TIED CARD OF 'gamehalltop.TopConvert'. -/
def topConvertCard : Claim7 := { stood := { row := topConvertRow, standIns := [], harness := (true, "acf05f998fa0f73d7b0569be8554ee5e8ec0e83714fa8b3b66b8d0b0e6545610"), looks := true }, kinds := [], alts := [], laidByText := true, laidKinds := [.data, .data, .data, .data, .sentinel, .sentinel, .pinned], laidTests := true, laidLooks := .later }
def TopConvertCardSaid : Prop := Claim7.holds Tryz.pinned (.plain (OpenSpec.ofChange topConvertSpec)) topConvertCard

/-- THE TIED CARD OF 'gamehalltop.TopRegret'. -/
def topRegretCard : Claim7 := { stood := { row := topRegretRow, standIns := [], harness := (true, "acf05f998fa0f73d7b0569be8554ee5e8ec0e83714fa8b3b66b8d0b0e6545610"), looks := true }, kinds := [], alts := [], laidByText := true, laidKinds := [.data, .data, .data, .data, .sentinel, .sentinel, .pinned], laidTests := true, laidLooks := .later }
def TopRegretCardSaid : Prop := Claim7.holds Tryz.pinned (.plain (OpenSpec.ofChange topRegretSpec)) topRegretCard

/-- THE SECOND FORM's CARD OF 'gamehallkeep2.RegretBounds'. -/
def regretBoundsUptoCard : Claim7 := { stood := { row := regretBoundsUptoRow, standIns := [], harness := (true, "acf05f998fa0f73d7b0569be8554ee5e8ec0e83714fa8b3b66b8d0b0e6545610"), looks := true }, kinds := [], alts := [], laidByText := true, laidKinds := [.data, .data, .data, .data, .sentinel, .sentinel, .pinned], laidTests := true, laidLooks := .later }
def RegretBoundsUptoCardSaid : Prop := Claim7.holds Tryz.pinned (.plain (OpenSpec.upto regretBoundsSpec)) regretBoundsUptoCard

/-- THE SECOND FORM's CARD OF 'gamehallkeep2.SeqformScales'. -/
def seqformScalesUptoCard : Claim7 := { stood := { row := seqformScalesUptoRow, standIns := [], harness := (true, "acf05f998fa0f73d7b0569be8554ee5e8ec0e83714fa8b3b66b8d0b0e6545610"), looks := true }, kinds := [], alts := [], laidByText := true, laidKinds := [.data, .data, .data, .data, .sentinel, .sentinel, .pinned], laidTests := true, laidLooks := .later }
def SeqformScalesUptoCardSaid : Prop := Claim7.holds Tryz.pinned (.plain (OpenSpec.upto seqformScalesSpec)) seqformScalesUptoCard

/-- THE SECOND FORM's CARD OF 'gamehallkeep2.SeqformSwaps'. -/
def seqformSwapsUptoCard : Claim7 := { stood := { row := seqformSwapsUptoRow, standIns := [], harness := (true, "acf05f998fa0f73d7b0569be8554ee5e8ec0e83714fa8b3b66b8d0b0e6545610"), looks := true }, kinds := [], alts := [], laidByText := true, laidKinds := [.data, .data, .data, .data, .sentinel, .sentinel, .pinned], laidTests := true, laidLooks := .later }
def SeqformSwapsUptoCardSaid : Prop := Claim7.holds Tryz.pinned (.plain (OpenSpec.upto seqformSwapsSpec)) seqformSwapsUptoCard

/-- THE SECOND FORM's CARD OF 'gamehallkeep2.SeqformPays'. -/
def seqformPaysUptoCard : Claim7 := { stood := { row := seqformPaysUptoRow, standIns := [], harness := (true, "acf05f998fa0f73d7b0569be8554ee5e8ec0e83714fa8b3b66b8d0b0e6545610"), looks := true }, kinds := [], alts := [], laidByText := true, laidKinds := [.data, .data, .data, .data, .sentinel, .sentinel, .pinned], laidTests := true, laidLooks := .later }
def SeqformPaysUptoCardSaid : Prop := Claim7.holds Tryz.pinned (.plain (OpenSpec.upto seqformPaysSpec)) seqformPaysUptoCard

/-- THE SECOND FORM's CARD OF 'gamehallkeep2.SeqformProves'. -/
def seqformProvesUptoCard : Claim7 := { stood := { row := seqformProvesUptoRow, standIns := [], harness := (true, "acf05f998fa0f73d7b0569be8554ee5e8ec0e83714fa8b3b66b8d0b0e6545610"), looks := true }, kinds := [], alts := [], laidByText := true, laidKinds := [.data, .data, .data, .data, .sentinel, .sentinel, .pinned], laidTests := true, laidLooks := .later }
def SeqformProvesUptoCardSaid : Prop := Claim7.holds Tryz.pinned (.plain (OpenSpec.upto seqformProvesSpec)) seqformProvesUptoCard

/-- THE SECOND FORM's CARD OF 'gamehallkeep2.ExploitOne'. -/
def exploitOneUptoCard : Claim7 := { stood := { row := exploitOneUptoRow, standIns := [], harness := (true, "acf05f998fa0f73d7b0569be8554ee5e8ec0e83714fa8b3b66b8d0b0e6545610"), looks := true }, kinds := [], alts := [], laidByText := true, laidKinds := [.data, .data, .data, .data, .sentinel, .sentinel, .pinned], laidTests := true, laidLooks := .later }
def ExploitOneUptoCardSaid : Prop := Claim7.holds Tryz.pinned (.plain (OpenSpec.upto exploitOneSpec)) exploitOneUptoCard

/-- THE SECOND FORM's CARD OF 'gamehalltop.TopEquilibrium'. -/
def topEquilibriumUptoCard : Claim7 := { stood := { row := topEquilibriumUptoRow, standIns := [], harness := (true, "acf05f998fa0f73d7b0569be8554ee5e8ec0e83714fa8b3b66b8d0b0e6545610"), looks := true }, kinds := [], alts := [], laidByText := true, laidKinds := [.data, .data, .data, .data, .sentinel, .sentinel, .pinned], laidTests := true, laidLooks := .later }
def TopEquilibriumUptoCardSaid : Prop := Claim7.holds Tryz.pinned (.plain (OpenSpec.upto topEquilibriumSpec)) topEquilibriumUptoCard

/-- THE SECOND FORM's CARD OF 'gamehalltop.TopValue'. -/
def topValueUptoCard : Claim7 := { stood := { row := topValueUptoRow, standIns := [], harness := (true, "acf05f998fa0f73d7b0569be8554ee5e8ec0e83714fa8b3b66b8d0b0e6545610"), looks := true }, kinds := [], alts := [], laidByText := true, laidKinds := [.data, .data, .data, .data, .sentinel, .sentinel, .pinned], laidTests := true, laidLooks := .later }
def TopValueUptoCardSaid : Prop := Claim7.holds Tryz.pinned (.plain (OpenSpec.upto topValueSpec)) topValueUptoCard

/-- THE SECOND FORM's CARD OF 'gamehalltop.TopConvert'. -/
def topConvertUptoCard : Claim7 := { stood := { row := topConvertUptoRow, standIns := [], harness := (true, "acf05f998fa0f73d7b0569be8554ee5e8ec0e83714fa8b3b66b8d0b0e6545610"), looks := true }, kinds := [], alts := [], laidByText := true, laidKinds := [.data, .data, .data, .data, .sentinel, .sentinel, .pinned], laidTests := true, laidLooks := .later }
def TopConvertUptoCardSaid : Prop := Claim7.holds Tryz.pinned (.plain (OpenSpec.upto topConvertSpec)) topConvertUptoCard

/-- THE SECOND FORM's CARD OF 'gamehalltop.TopRegret'. -/
def topRegretUptoCard : Claim7 := { stood := { row := topRegretUptoRow, standIns := [], harness := (true, "acf05f998fa0f73d7b0569be8554ee5e8ec0e83714fa8b3b66b8d0b0e6545610"), looks := true }, kinds := [], alts := [], laidByText := true, laidKinds := [.data, .data, .data, .data, .sentinel, .sentinel, .pinned], laidTests := true, laidLooks := .later }
def TopRegretUptoCardSaid : Prop := Claim7.holds Tryz.pinned (.plain (OpenSpec.upto topRegretSpec)) topRegretUptoCard
end Rows
end Go.Proofs.YtmpnheilfejcpaaGreatDoor
