/- What the proof of this claim stands on: the walks of the functions and the plain laws, part 8. -/
import Derived.Test.YtgkehjnacdccfaaGreatDoorFnIvMatWidthsLib7
set_option linter.unusedVariables false
set_option linter.unusedSimpArgs false
namespace Go.Proofs.YtgkehjnacdccfaaGreatDoor.ivMatWidths
open Go.Joins Go.ChangeShapes Go.WideShapes Go.ChangeAt Go.RowKit Go.Ab
theorem j1:(Rows.fnIvMatWidthsRow.inPlace==Tryz.prog.inPlace 7)=true:=by kernel_rfl
theorem j2:(Rows.fnIvMatWidthsRow.unfollowed==Tryz.prog.unfollowed 7)=true:=by kernel_rfl
theorem j3:(Rows.fnIvMatWidthsRow.recurses==Tryz.prog.recurses 7)=true:=by kernel_rfl
end Go.Proofs.YtgkehjnacdccfaaGreatDoor.ivMatWidths
