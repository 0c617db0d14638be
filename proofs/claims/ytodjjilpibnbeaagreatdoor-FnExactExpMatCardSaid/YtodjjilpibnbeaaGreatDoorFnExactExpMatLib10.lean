/- What the proof of this claim stands on: the walks of the functions and the plain laws, part 10. -/
import Derived.Test.YtodjjilpibnbeaaGreatDoorFnExactExpMatLib9
set_option linter.unusedVariables false
set_option linter.unusedSimpArgs false
namespace Go.Proofs.YtodjjilpibnbeaaGreatDoor.expMat
open Go.Joins Go.ChangeShapes Go.WideShapes Go.ChangeAt Go.RowKit Go.Ab
theorem j4:(Rows.fnExactExpMatRow.named==Tryz.prog.varsNamed 6)=true:=by kernel_rfl
theorem j5:mapsRowed Tryz.prog=true:=by kernel_rfl
theorem nm:Tryz.prog.funcNamed Rows.fnExactExpMatRow.func=some 6:=by kernel_rfl
end Go.Proofs.YtodjjilpibnbeaaGreatDoor.expMat
