/- What the proof of this claim stands on: the walks of the functions and the plain laws, part 8. -/
import Derived.Test.YtcobffkepgogiaaGreatDoorFnIvDivsLib7
set_option linter.unusedVariables false
set_option linter.unusedSimpArgs false
namespace Go.Proofs.YtcobffkepgogiaaGreatDoor.ivDivs
open Go.Joins Go.ChangeShapes Go.WideShapes Go.ChangeAt Go.RowKit Go.Ab
theorem j1:(Rows.fnIvDivsRow.inPlace==Tryz.prog.inPlace 5)=true:=by kernel_rfl
theorem j2:(Rows.fnIvDivsRow.unfollowed==Tryz.prog.unfollowed 5)=true:=by kernel_rfl
theorem j3:(Rows.fnIvDivsRow.recurses==Tryz.prog.recurses 5)=true:=by kernel_rfl
end Go.Proofs.YtcobffkepgogiaaGreatDoor.ivDivs
