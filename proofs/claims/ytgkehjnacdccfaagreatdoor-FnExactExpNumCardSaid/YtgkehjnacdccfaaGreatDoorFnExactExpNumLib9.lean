/- What the proof of this claim stands on: the walks of the functions and the plain laws, part 9. -/
import Derived.Test.YtgkehjnacdccfaaGreatDoorFnExactExpNumLib8
set_option linter.unusedVariables false
set_option linter.unusedSimpArgs false
namespace Go.Proofs.YtgkehjnacdccfaaGreatDoor.expNum
open Go.Joins Go.ChangeShapes Go.WideShapes Go.ChangeAt Go.RowKit Go.Ab
theorem j1:(Rows.fnExactExpNumRow.inPlace==Tryz.prog.inPlace 9)=true:=by kernel_rfl
theorem j2:(Rows.fnExactExpNumRow.unfollowed==Tryz.prog.unfollowed 9)=true:=by kernel_rfl
theorem j3:(Rows.fnExactExpNumRow.recurses==Tryz.prog.recurses 9)=true:=by kernel_rfl
end Go.Proofs.YtgkehjnacdccfaaGreatDoor.expNum
