/-
  DERIVED. GIVEN WITH THE SEED: THE CARDS: each row of YtbeegiiiochblaaDoorRows.lean that lists a variable, with what it lists TIED to the program's text (the seventh form; the later family's looks); each row that meets fmt, with fmt's text TOLD by the authors' own Lean function (tested against real Go, not proved from fmt's source: count such statements apart). THE CARD IS WHAT COUNTS. Prove the row's statement (the work); the ties are given (YtbeegiiiochblaaDoorTie.lean); close each card by the builder's one call (the guide's Derived/Test/ToyasCard.lean, 'card_holds'). Laid BY PROGRAM, IN A SANDBOX (cutbox-door.mjs). By AI agents, Wed Nov 11 2026. No macro, syntax, notation, axiom, sorry.
-/
import Derived.Test.YtbeegiiiochblaaDoorRows
import GoSem.ClaimSeven
namespace Go.Proofs.YtbeegiiiochblaaDoor
namespace Rows

/-- THE TIED CARD OF 'gamehallkeep2.TableBack'. -/
def tableBackCard : Claim7 := { stood := { row := tableBackRow, standIns := [], harness := (true, "77625db888213adcc614416835c6162403920da64ba448daf8bd7eefc4c9a856"), looks := true }, kinds := [], alts := [], laidByText := true, laidKinds := [.data, .data, .data, .sentinel, .sentinel], laidTests := true, laidLooks := .later }
def TableBackCardSaid : Prop := Claim7.holds Tryd.pinned (.plain (OpenSpec.ofChange tableBackSpec)) tableBackCard

/-- THE TIED CARD OF 'gamehallkeep2.TableSpoilt'. -/
def tableSpoiltCard : Claim7 := { stood := { row := tableSpoiltRow, standIns := [], harness := (true, "77625db888213adcc614416835c6162403920da64ba448daf8bd7eefc4c9a856"), looks := true }, kinds := [], alts := [], laidByText := true, laidKinds := [.data, .data, .data, .sentinel, .sentinel], laidTests := true, laidLooks := .later }
def TableSpoiltCardSaid : Prop := Claim7.holds Tryd.pinned (.plain (OpenSpec.ofChange tableSpoiltSpec)) tableSpoiltCard

/-- THE TIED CARD OF 'gamehallkeep2.TableCoded'. -/
def tableCodedCard : Claim7 := { stood := { row := tableCodedRow, standIns := [], harness := (true, "77625db888213adcc614416835c6162403920da64ba448daf8bd7eefc4c9a856"), looks := true }, kinds := [], alts := [], laidByText := true, laidKinds := [.data, .data, .data, .sentinel, .sentinel], laidTests := true, laidLooks := .later }
def TableCodedCardSaid : Prop := Claim7.holds Tryd.pinned (.plain (OpenSpec.ofChange tableCodedSpec)) tableCodedCard

/-- THE SECOND FORM's CARD OF 'gamehallkeep2.TableBack'. -/
def tableBackUptoCard : Claim7 := { stood := { row := tableBackUptoRow, standIns := [], harness := (true, "77625db888213adcc614416835c6162403920da64ba448daf8bd7eefc4c9a856"), looks := true }, kinds := [], alts := [], laidByText := true, laidKinds := [.data, .data, .data, .sentinel, .sentinel], laidTests := true, laidLooks := .later }
def TableBackUptoCardSaid : Prop := Claim7.holds Tryd.pinned (.plain (OpenSpec.upto tableBackSpec)) tableBackUptoCard

/-- THE SECOND FORM's CARD OF 'gamehallkeep2.TableSpoilt'. -/
def tableSpoiltUptoCard : Claim7 := { stood := { row := tableSpoiltUptoRow, standIns := [], harness := (true, "77625db888213adcc614416835c6162403920da64ba448daf8bd7eefc4c9a856"), looks := true }, kinds := [], alts := [], laidByText := true, laidKinds := [.data, .data, .data, .sentinel, .sentinel], laidTests := true, laidLooks := .later }
def TableSpoiltUptoCardSaid : Prop := Claim7.holds Tryd.pinned (.plain (OpenSpec.upto tableSpoiltSpec)) tableSpoiltUptoCard

/-- THE SECOND FORM's CARD OF 'gamehallkeep2.TableCoded'. -/
def tableCodedUptoCard : Claim7 := { stood := { row := tableCodedUptoRow, standIns := [], harness := (true, "77625db888213adcc614416835c6162403920da64ba448daf8bd7eefc4c9a856"), looks := true }, kinds := [], alts := [], laidByText := true, laidKinds := [.data, .data, .data, .sentinel, .sentinel], laidTests := true, laidLooks := .later }
def TableCodedUptoCardSaid : Prop := Claim7.holds Tryd.pinned (.plain (OpenSpec.upto tableCodedSpec)) tableCodedUptoCard
end Rows
end Go.Proofs.YtbeegiiiochblaaDoor
