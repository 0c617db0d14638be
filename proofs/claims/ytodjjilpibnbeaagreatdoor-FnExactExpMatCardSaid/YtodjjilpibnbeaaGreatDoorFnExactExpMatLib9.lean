/- What the proof of this claim stands on: the walks of the functions and the plain laws, part 9. -/
import Derived.Test.YtodjjilpibnbeaaGreatDoorFnExactExpMatLib8
set_option linter.unusedVariables false
set_option linter.unusedSimpArgs false
namespace Go.Proofs.YtodjjilpibnbeaaGreatDoor.expMat
open Go.Joins Go.ChangeShapes Go.WideShapes Go.ChangeAt Go.RowKit Go.Ab
theorem j1:(Rows.fnExactExpMatRow.inPlace==Tryz.prog.inPlace 6)=true:=by kernel_rfl
theorem j2:(Rows.fnExactExpMatRow.unfollowed==Tryz.prog.unfollowed 6)=true:=by kernel_rfl
theorem j3:(Rows.fnExactExpMatRow.recurses==Tryz.prog.recurses 6)=true:=by kernel_rfl
end Go.Proofs.YtodjjilpibnbeaaGreatDoor.expMat
