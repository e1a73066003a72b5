import Derived.Test.YtdgiglmmpbndmaaGreatDoorKGlueB
set_option linter.unusedVariables false
set_option linter.unusedSimpArgs false
namespace Go.Proofs.YtdgiglmmpbndmaaGreatDoor
open Go Go.Av Go.Ev Go.RowKit Go.ChangeShapes Go.WideShapes Go.ChangeAt
theorem jM:mapsRowed Tryz.prog=true:=by kernel_rfl
theorem jS:Tryz.prog.stopsHeard=true:=by kernel_rfl
theorem jE:Tryz.prog.mayEnter=true:=by kernel_rfl
theorem jL:Tryz.prog.liftsFinal=Rows.compileBuildRow.lifted:=by kernel_rfl
theorem jK:Tryz.prog.make=some Rows.compileBuildRow.make:=by kernel_rfl
end Go.Proofs.YtdgiglmmpbndmaaGreatDoor
