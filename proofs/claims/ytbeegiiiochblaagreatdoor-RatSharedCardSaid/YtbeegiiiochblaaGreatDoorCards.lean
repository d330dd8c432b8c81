/-
  DERIVED. GIVEN WITH THE SEED: THE CARDS: each row of YtbeegiiiochblaaGreatDoorRows.lean that lists a variable, with what it lists TIED to the program's text (the seventh form; the later family's looks); each row that meets fmt, with fmt's text TOLD by the authors' own Lean function (tested against real Go, not proved from fmt's source: count such statements apart). THE CARD IS WHAT COUNTS. Prove the row's statement (the work); the ties are given (YtbeegiiiochblaaGreatDoorTie.lean); close each card by the builder's one call (the guide's Derived/Test/ToyasCard.lean, 'card_holds'). Laid BY PROGRAM, IN A SANDBOX (cutbox-door.mjs). By AI agents, Wed Nov 11 2026. No macro, syntax, notation, axiom, sorry.
-/
import Derived.Test.YtbeegiiiochblaaGreatDoorRows
import GoSem.ClaimSeven
namespace Go.Proofs.YtbeegiiiochblaaGreatDoor
namespace Rows

/-- THE TIED CARD OF 'gamehallkeep2.NatRing'. -/
def natRingCard : Claim7 := { stood := { row := natRingRow, standIns := [], harness := (true, "4eea6098d88c722099cca881e29dd347c8f2c126615b788fe8573f6d166807d2"), looks := true }, kinds := [], alts := [], laidByText := true, laidKinds := [.data, .data, .data, .data, .sentinel, .sentinel, .pinned], laidTests := true, laidLooks := .later }
def NatRingCardSaid : Prop := Claim7.holds Tryz.pinned (.plain (OpenSpec.ofChange natRingSpec)) natRingCard

/-- THE TIED CARD OF 'gamehallkeep2.NatEuclid'. -/
def natEuclidCard : Claim7 := { stood := { row := natEuclidRow, standIns := [], harness := (true, "4eea6098d88c722099cca881e29dd347c8f2c126615b788fe8573f6d166807d2"), looks := true }, kinds := [], alts := [], laidByText := true, laidKinds := [.data, .data, .data, .data, .sentinel, .sentinel, .pinned], laidTests := true, laidLooks := .later }
def NatEuclidCardSaid : Prop := Claim7.holds Tryz.pinned (.plain (OpenSpec.ofChange natEuclidSpec)) natEuclidCard

/-- THE TIED CARD OF 'gamehallkeep2.NatOrders'. -/
def natOrdersCard : Claim7 := { stood := { row := natOrdersRow, standIns := [], harness := (true, "4eea6098d88c722099cca881e29dd347c8f2c126615b788fe8573f6d166807d2"), looks := true }, kinds := [], alts := [], laidByText := true, laidKinds := [.data, .data, .data, .data, .sentinel, .sentinel, .pinned], laidTests := true, laidLooks := .later }
def NatOrdersCardSaid : Prop := Claim7.holds Tryz.pinned (.plain (OpenSpec.ofChange natOrdersSpec)) natOrdersCard

/-- THE TIED CARD OF 'gamehallkeep2.NatPascal'. -/
def natPascalCard : Claim7 := { stood := { row := natPascalRow, standIns := [], harness := (true, "4eea6098d88c722099cca881e29dd347c8f2c126615b788fe8573f6d166807d2"), looks := true }, kinds := [], alts := [], laidByText := true, laidKinds := [.data, .data, .data, .data, .sentinel, .sentinel, .pinned], laidTests := true, laidLooks := .later }
def NatPascalCardSaid : Prop := Claim7.holds Tryz.pinned (.plain (OpenSpec.ofChange natPascalSpec)) natPascalCard

/-- THE TIED CARD OF 'gamehallkeep2.RatField'. -/
def ratFieldCard : Claim7 := { stood := { row := ratFieldRow, standIns := [], harness := (true, "4eea6098d88c722099cca881e29dd347c8f2c126615b788fe8573f6d166807d2"), looks := true }, kinds := [], alts := [], laidByText := true, laidKinds := [.data, .data, .data, .data, .sentinel, .sentinel, .pinned], laidTests := true, laidLooks := .later }
def RatFieldCardSaid : Prop := Claim7.holds Tryz.pinned (.plain (OpenSpec.ofChange ratFieldSpec)) ratFieldCard

/-- THE TIED CARD OF 'gamehallkeep2.RatOrder'. -/
def ratOrderCard : Claim7 := { stood := { row := ratOrderRow, standIns := [], harness := (true, "4eea6098d88c722099cca881e29dd347c8f2c126615b788fe8573f6d166807d2"), looks := true }, kinds := [], alts := [], laidByText := true, laidKinds := [.data, .data, .data, .data, .sentinel, .sentinel, .pinned], laidTests := true, laidLooks := .later }
def RatOrderCardSaid : Prop := Claim7.holds Tryz.pinned (.plain (OpenSpec.ofChange ratOrderSpec)) ratOrderCard

/-- THE TIED CARD OF 'gamehallkeep2.RatFloors'. -/
def ratFloorsCard : Claim7 := { stood := { row := ratFloorsRow, standIns := [], harness := (true, "4eea6098d88c722099cca881e29dd347c8f2c126615b788fe8573f6d166807d2"), looks := true }, kinds := [], alts := [], laidByText := true, laidKinds := [.data, .data, .data, .data, .sentinel, .sentinel, .pinned], laidTests := true, laidLooks := .later }
def RatFloorsCardSaid : Prop := Claim7.holds Tryz.pinned (.plain (OpenSpec.ofChange ratFloorsSpec)) ratFloorsCard

/-- THE TIED CARD OF 'gamehallkeep2.RatShared'. -/
def ratSharedCard : Claim7 := { stood := { row := ratSharedRow, standIns := [], harness := (true, "4eea6098d88c722099cca881e29dd347c8f2c126615b788fe8573f6d166807d2"), looks := true }, kinds := [], alts := [], laidByText := true, laidKinds := [.data, .data, .data, .data, .sentinel, .sentinel, .pinned], laidTests := true, laidLooks := .later }
def RatSharedCardSaid : Prop := Claim7.holds Tryz.pinned (.plain (OpenSpec.ofChange ratSharedSpec)) ratSharedCard

/-- THE SECOND FORM's CARD OF 'gamehallkeep2.NatRing'. -/
def natRingUptoCard : Claim7 := { stood := { row := natRingUptoRow, standIns := [], harness := (true, "4eea6098d88c722099cca881e29dd347c8f2c126615b788fe8573f6d166807d2"), looks := true }, kinds := [], alts := [], laidByText := true, laidKinds := [.data, .data, .data, .data, .sentinel, .sentinel, .pinned], laidTests := true, laidLooks := .later }
def NatRingUptoCardSaid : Prop := Claim7.holds Tryz.pinned (.plain (OpenSpec.upto natRingSpec)) natRingUptoCard

/-- THE SECOND FORM's CARD OF 'gamehallkeep2.NatEuclid'. -/
def natEuclidUptoCard : Claim7 := { stood := { row := natEuclidUptoRow, standIns := [], harness := (true, "4eea6098d88c722099cca881e29dd347c8f2c126615b788fe8573f6d166807d2"), looks := true }, kinds := [], alts := [], laidByText := true, laidKinds := [.data, .data, .data, .data, .sentinel, .sentinel, .pinned], laidTests := true, laidLooks := .later }
def NatEuclidUptoCardSaid : Prop := Claim7.holds Tryz.pinned (.plain (OpenSpec.upto natEuclidSpec)) natEuclidUptoCard

/-- THE SECOND FORM's CARD OF 'gamehallkeep2.NatOrders'. -/
def natOrdersUptoCard : Claim7 := { stood := { row := natOrdersUptoRow, standIns := [], harness := (true, "4eea6098d88c722099cca881e29dd347c8f2c126615b788fe8573f6d166807d2"), looks := true }, kinds := [], alts := [], laidByText := true, laidKinds := [.data, .data, .data, .data, .sentinel, .sentinel, .pinned], laidTests := true, laidLooks := .later }
def NatOrdersUptoCardSaid : Prop := Claim7.holds Tryz.pinned (.plain (OpenSpec.upto natOrdersSpec)) natOrdersUptoCard

/-- THE SECOND FORM's CARD OF 'gamehallkeep2.NatPascal'. -/
def natPascalUptoCard : Claim7 := { stood := { row := natPascalUptoRow, standIns := [], harness := (true, "4eea6098d88c722099cca881e29dd347c8f2c126615b788fe8573f6d166807d2"), looks := true }, kinds := [], alts := [], laidByText := true, laidKinds := [.data, .data, .data, .data, .sentinel, .sentinel, .pinned], laidTests := true, laidLooks := .later }
def NatPascalUptoCardSaid : Prop := Claim7.holds Tryz.pinned (.plain (OpenSpec.upto natPascalSpec)) natPascalUptoCard

/-- THE SECOND FORM's CARD OF 'gamehallkeep2.RatField'. -/
def ratFieldUptoCard : Claim7 := { stood := { row := ratFieldUptoRow, standIns := [], harness := (true, "4eea6098d88c722099cca881e29dd347c8f2c126615b788fe8573f6d166807d2"), looks := true }, kinds := [], alts := [], laidByText := true, laidKinds := [.data, .data, .data, .data, .sentinel, .sentinel, .pinned], laidTests := true, laidLooks := .later }
def RatFieldUptoCardSaid : Prop := Claim7.holds Tryz.pinned (.plain (OpenSpec.upto ratFieldSpec)) ratFieldUptoCard

/-- THE SECOND FORM's CARD OF 'gamehallkeep2.RatOrder'. -/
def ratOrderUptoCard : Claim7 := { stood := { row := ratOrderUptoRow, standIns := [], harness := (true, "4eea6098d88c722099cca881e29dd347c8f2c126615b788fe8573f6d166807d2"), looks := true }, kinds := [], alts := [], laidByText := true, laidKinds := [.data, .data, .data, .data, .sentinel, .sentinel, .pinned], laidTests := true, laidLooks := .later }
def RatOrderUptoCardSaid : Prop := Claim7.holds Tryz.pinned (.plain (OpenSpec.upto ratOrderSpec)) ratOrderUptoCard

/-- THE SECOND FORM's CARD OF 'gamehallkeep2.RatFloors'. -/
def ratFloorsUptoCard : Claim7 := { stood := { row := ratFloorsUptoRow, standIns := [], harness := (true, "4eea6098d88c722099cca881e29dd347c8f2c126615b788fe8573f6d166807d2"), looks := true }, kinds := [], alts := [], laidByText := true, laidKinds := [.data, .data, .data, .data, .sentinel, .sentinel, .pinned], laidTests := true, laidLooks := .later }
def RatFloorsUptoCardSaid : Prop := Claim7.holds Tryz.pinned (.plain (OpenSpec.upto ratFloorsSpec)) ratFloorsUptoCard

/-- THE SECOND FORM's CARD OF 'gamehallkeep2.RatShared'. -/
def ratSharedUptoCard : Claim7 := { stood := { row := ratSharedUptoRow, standIns := [], harness := (true, "4eea6098d88c722099cca881e29dd347c8f2c126615b788fe8573f6d166807d2"), looks := true }, kinds := [], alts := [], laidByText := true, laidKinds := [.data, .data, .data, .data, .sentinel, .sentinel, .pinned], laidTests := true, laidLooks := .later }
def RatSharedUptoCardSaid : Prop := Claim7.holds Tryz.pinned (.plain (OpenSpec.upto ratSharedSpec)) ratSharedUptoCard
end Rows
end Go.Proofs.YtbeegiiiochblaaGreatDoor
