import Derived.Test.YtkncmbklkhjmgaaGreatDoorRows
import Derived.Test.YtkncmbklkhjmgaaGreatDoorTie
import Derived.Test.YtkncmbklkhjmgaaGreatDoorCards
import Derived.LaidMore
import Derived.Lay
import Derived.SevenTiedAt
import Derived.Stop.Joined
import Derived.Stop.ErrReads
import Derived.MakeChecks
set_option linter.unusedVariables false
set_option linter.unusedSimpArgs false
namespace Go.Proofs.YtkncmbklkhjmgaaGreatDoor
open Go.ChangeShapes Go.WideShapes
theorem ownIt : ownKnob Tryz.prog.godebug = none := by kernel_rfl
theorem laidIt : laidOutB Tryz.prog = true := by kernel_rfl
theorem zQY : mapsRowed Tryz.prog = true := by kernel_rfl
theorem fullIt : ((List.range Tryz.prog.types.size).all fun t => match Tryz.prog.underlying t with | some (.slice e) => decide (0 < Tryz.prog.cellsOf e) | _ => true) = true := by kernel_rfl
theorem stopsIt : (Tryz.prog.stops == []) = true := by kernel_rfl
theorem knobsIt : (Tryz.prog.stopKnobs == []) = true := by kernel_rfl
theorem heardIt : Tryz.prog.stopsHeard = true := by kernel_rfl
theorem enterIt : Tryz.prog.mayEnter = true := by kernel_rfl
theorem liftIt : (Rows.matgameProvesRow.lifted == Tryz.prog.liftsFinal) = true := by kernel_rfl
theorem makeIt : (Tryz.prog.make == some Rows.matgameProvesRow.make) = true := by kernel_rfl
theorem plainIt : (Rows.matgameProvesRow.plainKeys == Tryz.prog.plainKeys) = true := by kernel_rfl
theorem zRD : Tryz.prog.mainIs = some (true, ("3ea313bfc84e18d7a14057297d76a6f07cbc7b38cde80ce9b3cbed387549a276" : String).toList) := by kernel_rfl
theorem looksIt : true = Tryz.prog.looks [] := by kernel_rfl
end Go.Proofs.YtkncmbklkhjmgaaGreatDoor
