/- What the proof of this claim stands on: the walks of the functions and the plain laws, part 12. -/
import Derived.Test.YtodjjilpibnbeaaGreatDoorFnExactExpMatLib11
set_option linter.unusedVariables false
set_option linter.unusedSimpArgs false
namespace Go.Proofs.YtodjjilpibnbeaaGreatDoor.expMat
open Go.Joins Go.ChangeShapes Go.WideShapes Go.ChangeAt Go.RowKit Go.Ab
theorem aDl:false=Rows.fnExactExpMatRow.goesBy Tryz.prog:=by kernel_rfl
end Go.Proofs.YtodjjilpibnbeaaGreatDoor.expMat
