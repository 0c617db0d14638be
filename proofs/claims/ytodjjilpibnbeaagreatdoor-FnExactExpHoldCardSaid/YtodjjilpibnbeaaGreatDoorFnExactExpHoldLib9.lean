/- What the proof of this claim stands on: the walks of the functions and the plain laws, part 9. -/
import Derived.Test.YtodjjilpibnbeaaGreatDoorFnExactExpHoldLib8
set_option linter.unusedVariables false
set_option linter.unusedSimpArgs false
namespace Go.Proofs.YtodjjilpibnbeaaGreatDoor.expHold
open Go.Joins Go.ChangeShapes Go.WideShapes Go.ChangeAt Go.RowKit Go.Ab
theorem j1:(Rows.fnExactExpHoldRow.inPlace==Tryz.prog.inPlace 5)=true:=by kernel_rfl
theorem j2:(Rows.fnExactExpHoldRow.unfollowed==Tryz.prog.unfollowed 5)=true:=by kernel_rfl
theorem j3:(Rows.fnExactExpHoldRow.recurses==Tryz.prog.recurses 5)=true:=by kernel_rfl
end Go.Proofs.YtodjjilpibnbeaaGreatDoor.expHold
