import Derived.Test.YtdgiglmmpbndmaaGreatDoorNGlueB
set_option linter.all false
namespace Go.Proofs.YtdgiglmmpbndmaaGreatDoor
open Go Go.Av Go.Ev Go.RowKit Go.ChangeShapes Go.WideShapes Go.ChangeAt
def jM:mapsRowed Tryz.prog=true:=by kernel_rfl
def jS:Tryz.prog.stopsHeard=true:=by kernel_rfl
def jE:Tryz.prog.mayEnter=true:=by kernel_rfl
def jL:Tryz.prog.liftsFinal=Rows.compileBuildRow.lifted:=by kernel_rfl
def jK:Tryz.prog.make=some Rows.compileBuildRow.make:=by kernel_rfl
end Go.Proofs.YtdgiglmmpbndmaaGreatDoor
