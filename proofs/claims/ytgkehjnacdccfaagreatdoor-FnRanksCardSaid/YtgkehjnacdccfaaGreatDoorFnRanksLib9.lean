/- What the proof of this claim stands on: the walks of the functions and the plain laws, part 9. -/
import Derived.Test.YtgkehjnacdccfaaGreatDoorFnRanksLib8
set_option linter.unusedVariables false
set_option linter.unusedSimpArgs false
namespace Go.Proofs.YtgkehjnacdccfaaGreatDoor.ranks
open Go.Joins Go.ChangeShapes Go.WideShapes Go.ChangeAt Go.RowKit Go.Ab
theorem j1:(Rows.fnRanksRow.inPlace==Tryz.prog.inPlace 5)=true:=by kernel_rfl
theorem j2:(Rows.fnRanksRow.unfollowed==Tryz.prog.unfollowed 5)=true:=by kernel_rfl
theorem j3:(Rows.fnRanksRow.recurses==Tryz.prog.recurses 5)=true:=by kernel_rfl
end Go.Proofs.YtgkehjnacdccfaaGreatDoor.ranks
