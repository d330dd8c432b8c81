/-
  DERIVED. GIVEN WITH THE SEED: THE CARDS: each row of YtkhdfimdkjjimaaGreatDoorRows.lean that lists a variable, with what it lists TIED to the program's text (the seventh form; the later family's looks); each row that meets fmt, with fmt's text TOLD by the authors' own Lean function (tested against real Go, not proved from fmt's source: count such statements apart). THE CARD IS WHAT COUNTS. Prove the row's statement (the work); the ties are given (YtkhdfimdkjjimaaGreatDoorTie.lean); close each card by the builder's one call (the guide's Derived/Test/ToyasCard.lean, 'card_holds'). Laid BY PROGRAM, IN A SANDBOX (cutbox-door.mjs). By AI agents, Wed Nov 11 2026. No macro, syntax, notation, axiom, sorry.
-/
import Derived.Test.YtkhdfimdkjjimaaGreatDoorRows
import GoSem.ClaimSeven
namespace Go.Proofs.YtkhdfimdkjjimaaGreatDoor
namespace Rows

/-- THE TIED CARD OF 'gamehalltop.TopTables'. -/
def topTablesCard : Claim7 := { stood := { row := topTablesRow, standIns := [], harness := (true, "d04956e65b91b327675e25521f565e823676404f8caa57188f889227c462b92f"), looks := false }, kinds := [], alts := [], laidByText := true, laidKinds := [.data, .data, .data], laidTests := true, laidLooks := .later }
def TopTablesCardSaid : Prop := Claim7.holds Tryz.pinned (.plain (OpenSpec.ofChange topTablesSpec)) topTablesCard

/-- THE TIED CARD OF 'gamehalltop.TopProbe'. -/
def topProbeCard : Claim7 := { stood := { row := topProbeRow, standIns := [], harness := (true, "d04956e65b91b327675e25521f565e823676404f8caa57188f889227c462b92f"), looks := false }, kinds := [], alts := [], laidByText := true, laidKinds := [.data, .data, .data], laidTests := true, laidLooks := .later }
def TopProbeCardSaid : Prop := Claim7.holds Tryz.pinned (.plain (OpenSpec.ofChange topProbeSpec)) topProbeCard

/-- THE SECOND FORM's CARD OF 'gamehalltop.TopTables'. -/
def topTablesUptoCard : Claim7 := { stood := { row := topTablesUptoRow, standIns := [], harness := (true, "d04956e65b91b327675e25521f565e823676404f8caa57188f889227c462b92f"), looks := false }, kinds := [], alts := [], laidByText := true, laidKinds := [.data, .data, .data], laidTests := true, laidLooks := .later }
def TopTablesUptoCardSaid : Prop := Claim7.holds Tryz.pinned (.plain (OpenSpec.upto topTablesSpec)) topTablesUptoCard

/-- THE SECOND FORM's CARD OF 'gamehalltop.TopProbe'. -/
def topProbeUptoCard : Claim7 := { stood := { row := topProbeUptoRow, standIns := [], harness := (true, "d04956e65b91b327675e25521f565e823676404f8caa57188f889227c462b92f"), looks := false }, kinds := [], alts := [], laidByText := true, laidKinds := [.data, .data, .data], laidTests := true, laidLooks := .later }
def TopProbeUptoCardSaid : Prop := Claim7.holds Tryz.pinned (.plain (OpenSpec.upto topProbeSpec)) topProbeUptoCard
end Rows
end Go.Proofs.YtkhdfimdkjjimaaGreatDoor
