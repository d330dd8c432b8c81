import Derived.Test.YtiifcejepaeepaaDoorRows
import Derived.Test.YtiifcejepaeepaaDoorTie
import Derived.Test.YtiifcejepaeepaaDoorCards
import Derived.LaidMore
import Derived.Lay
import Derived.SevenTiedAt
import Derived.Stop.Joined
import Derived.Stop.ErrReads
import Derived.MakeChecks
set_option linter.unusedVariables false
set_option linter.unusedSimpArgs false
theorem Go.Ax.J {α : Sort _} {a : α} : a = a := rfl
namespace Go.Proofs.YtiifcejepaeepaaDoor
open Go.ChangeShapes Go.WideShapes
theorem ownIt : ownKnob Tryd.prog.godebug = none := by kernel_rfl
theorem laidIt : laidOutB Tryd.prog = true := by kernel_rfl
theorem zLM : mapsRowed Tryd.prog = true := by kernel_rfl
theorem fullIt : ((List.range Tryd.prog.types.size).all fun t => match Tryd.prog.underlying t with | some (.slice e) => decide (0 < Tryd.prog.cellsOf e) | _ => true) = true := by kernel_rfl
theorem stopsIt : (Tryd.prog.stops == []) = true := by kernel_rfl
theorem knobsIt : (Tryd.prog.stopKnobs == []) = true := by kernel_rfl
theorem heardIt : Tryd.prog.stopsHeard = true := by kernel_rfl
theorem enterIt : Tryd.prog.mayEnter = true := by kernel_rfl
theorem liftIt : (Rows.retroRefusesRow.lifted == Tryd.prog.liftsFinal) = true := by kernel_rfl
theorem makeIt : (Tryd.prog.make == some Rows.retroRefusesRow.make) = true := by kernel_rfl
theorem plainIt : (Rows.retroRefusesRow.plainKeys == Tryd.prog.plainKeys) = true := by kernel_rfl
theorem zLn : Tryd.prog.mainIs = some (true, ("ad55fd3a6a4be0c73303237172f97089a011862a1d1882085510d131060b00e2" : String).toList) := by kernel_rfl
theorem looksIt : false = Tryd.prog.looks [] := by kernel_rfl
end Go.Proofs.YtiifcejepaeepaaDoor
