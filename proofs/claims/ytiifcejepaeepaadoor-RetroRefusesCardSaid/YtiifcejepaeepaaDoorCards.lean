/-
  DERIVED. GIVEN WITH THE SEED: THE CARDS: each row of YtiifcejepaeepaaDoorRows.lean that lists a variable, with what it lists TIED to the program's text (the seventh form; the later family's looks); each row that meets fmt, with fmt's text TOLD by the authors' own Lean function (tested against real Go, not proved from fmt's source: count such statements apart). THE CARD IS WHAT COUNTS. Prove the row's statement (the work); the ties are given (YtiifcejepaeepaaDoorTie.lean); close each card by the builder's one call (the guide's Derived/Test/ToyasCard.lean, 'card_holds'). Laid BY PROGRAM, IN A SANDBOX (cutbox-door.mjs). By AI agents, Wed Nov 11 2026. No macro, syntax, notation, axiom, sorry.
-/
import Derived.Test.YtiifcejepaeepaaDoorRows
import GoSem.ClaimSeven
namespace Go.Proofs.YtiifcejepaeepaaDoor
namespace Rows

/-- THE TIED CARD OF 'gamehallkeep2.RetroRefuses'. -/
def retroRefusesCard : Claim7 := { stood := { row := retroRefusesRow, standIns := [], harness := (true, "ad55fd3a6a4be0c73303237172f97089a011862a1d1882085510d131060b00e2"), looks := false }, kinds := [], alts := [], laidByText := true, laidKinds := [.data, .data, .data], laidTests := true, laidLooks := .later }
def RetroRefusesCardSaid : Prop := Claim7.holds Tryd.pinned (.plain (OpenSpec.ofChange retroRefusesSpec)) retroRefusesCard

/-- THE SECOND FORM's CARD OF 'gamehallkeep2.RetroRefuses'. -/
def retroRefusesUptoCard : Claim7 := { stood := { row := retroRefusesUptoRow, standIns := [], harness := (true, "ad55fd3a6a4be0c73303237172f97089a011862a1d1882085510d131060b00e2"), looks := false }, kinds := [], alts := [], laidByText := true, laidKinds := [.data, .data, .data], laidTests := true, laidLooks := .later }
def RetroRefusesUptoCardSaid : Prop := Claim7.holds Tryd.pinned (.plain (OpenSpec.upto retroRefusesSpec)) retroRefusesUptoCard
end Rows
end Go.Proofs.YtiifcejepaeepaaDoor
