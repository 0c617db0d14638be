/- What the proof of this claim stands on: the walks of the functions and the plain laws, part 11. -/
import Derived.Test.YtodjjilpibnbeaaGreatDoorFnExactRootMatLib10
set_option linter.unusedVariables false
set_option linter.unusedSimpArgs false
namespace Go.Proofs.YtodjjilpibnbeaaGreatDoor.rootMat
open Go.Joins Go.ChangeShapes Go.WideShapes Go.ChangeAt Go.RowKit Go.Ab
theorem aBQ:false=Rows.fnExactRootMatRow.goesBy Tryz.prog:=by kernel_rfl
end Go.Proofs.YtodjjilpibnbeaaGreatDoor.rootMat
