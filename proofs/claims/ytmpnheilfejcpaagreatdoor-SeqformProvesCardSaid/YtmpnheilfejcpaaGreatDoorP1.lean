import Derived.Test.YtmpnheilfejcpaaGreatDoorRows
import Derived.Test.YtmpnheilfejcpaaGreatDoorTie
import Derived.Test.YtmpnheilfejcpaaGreatDoorCards
import Derived.LaidMore
import Derived.Lay
import Derived.SevenTiedAt
import Derived.Stop.Joined
import Derived.Stop.ErrReads
import Derived.MakeChecks
set_option linter.unusedVariables false
set_option linter.unusedSimpArgs false
namespace Go.Proofs.YtmpnheilfejcpaaGreatDoor
open Go.ChangeShapes Go.WideShapes
theorem aik:ownKnob Tryz.prog.godebug=none:=by kernel_rfl
theorem Tn:laidOutB Tryz.prog=true:=by kernel_rfl
theorem Zw:mapsRowed Tryz.prog=true:=by kernel_rfl
theorem acO:((List.range Tryz.prog.types.size).all fun t=>match Tryz.prog.underlying t with|some (.slice e)=>decide (0<Tryz.prog.cellsOf e)|_=>true)=true:=by kernel_rfl
theorem akx:(Tryz.prog.stops==[])=true:=by kernel_rfl
theorem agY:(Tryz.prog.stopKnobs==[])=true:=by kernel_rfl
theorem aeI:Tryz.prog.stopsHeard=true:=by kernel_rfl
theorem ach:Tryz.prog.mayEnter=true:=by kernel_rfl
theorem ahr:(Rows.regretBoundsRow.lifted==Tryz.prog.liftsFinal)=true:=by kernel_rfl
theorem ahw:(Tryz.prog.make==some Rows.regretBoundsRow.make)=true:=by kernel_rfl
theorem aiG:(Rows.regretBoundsRow.plainKeys==Tryz.prog.plainKeys)=true:=by kernel_rfl
theorem apc:Tryz.prog.mainIs=some (true,("acf05f998fa0f73d7b0569be8554ee5e8ec0e83714fa8b3b66b8d0b0e6545610" :String).toList):=by kernel_rfl
theorem ahu:true=Tryz.prog.looks []:=by kernel_rfl
end Go.Proofs.YtmpnheilfejcpaaGreatDoor
