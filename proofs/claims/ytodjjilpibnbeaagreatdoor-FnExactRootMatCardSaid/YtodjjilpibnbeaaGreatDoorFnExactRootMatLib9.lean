/- What the proof of this claim stands on: the walks of the functions and the plain laws, part 9. -/
import Derived.Test.YtodjjilpibnbeaaGreatDoorFnExactRootMatLib8
set_option linter.unusedVariables false
set_option linter.unusedSimpArgs false
namespace Go.Proofs.YtodjjilpibnbeaaGreatDoor.rootMat
open Go.Joins Go.ChangeShapes Go.WideShapes Go.ChangeAt Go.RowKit Go.Ab
theorem j4:(Rows.fnExactRootMatRow.named==Tryz.prog.varsNamed 4)=true:=by kernel_rfl
theorem j5:mapsRowed Tryz.prog=true:=by kernel_rfl
theorem nm:Tryz.prog.funcNamed Rows.fnExactRootMatRow.func=some 4:=by kernel_rfl
end Go.Proofs.YtodjjilpibnbeaaGreatDoor.rootMat
