import Derived.Test.YtkhdfimdkjjimaaGreatDoorRows
import Derived.Test.YtkhdfimdkjjimaaGreatDoorTie
import Derived.Test.YtkhdfimdkjjimaaGreatDoorCards
import Derived.LaidMore
import Derived.Lay
import Derived.SevenTiedAt
import Derived.Stop.Joined
import Derived.Stop.ErrReads
import Derived.MakeChecks
set_option linter.unusedVariables false
set_option linter.unusedSimpArgs false
theorem Go.Ax.U {α : Sort _} {a : α} : a = a := rfl
namespace Go.Proofs.YtkhdfimdkjjimaaGreatDoor
open Go.ChangeShapes Go.WideShapes
theorem ownIt : ownKnob Tryz.prog.godebug = none := by kernel_rfl
theorem laidIt : laidOutB Tryz.prog = true := by kernel_rfl
theorem zNg : mapsRowed Tryz.prog = true := by kernel_rfl
theorem fullIt : ((List.range Tryz.prog.types.size).all fun t => match Tryz.prog.underlying t with | some (.slice e) => decide (0 < Tryz.prog.cellsOf e) | _ => true) = true := by kernel_rfl
theorem stopsIt : (Tryz.prog.stops == []) = true := by kernel_rfl
theorem knobsIt : (Tryz.prog.stopKnobs == []) = true := by kernel_rfl
theorem heardIt : Tryz.prog.stopsHeard = true := by kernel_rfl
theorem enterIt : Tryz.prog.mayEnter = true := by kernel_rfl
theorem liftIt : (Rows.topTablesRow.lifted == Tryz.prog.liftsFinal) = true := by kernel_rfl
theorem makeIt : (Tryz.prog.make == some Rows.topTablesRow.make) = true := by kernel_rfl
theorem plainIt : (Rows.topTablesRow.plainKeys == Tryz.prog.plainKeys) = true := by kernel_rfl
theorem zN9 : Tryz.prog.mainIs = some (true, ("d04956e65b91b327675e25521f565e823676404f8caa57188f889227c462b92f" : String).toList) := by kernel_rfl
theorem looksIt : false = Tryz.prog.looks [] := by kernel_rfl
end Go.Proofs.YtkhdfimdkjjimaaGreatDoor
