/- What the proof of this claim stands on: the walks of the functions and the plain laws, part 8. -/
import Derived.Test.YtcobffkepgogiaaGreatDoorFnAdjsLib7
set_option linter.unusedVariables false
set_option linter.unusedSimpArgs false
namespace Go.Proofs.YtcobffkepgogiaaGreatDoor.adjs
open Go.Joins Go.ChangeShapes Go.WideShapes Go.ChangeAt Go.RowKit Go.Ab
theorem j1:(Rows.fnAdjsRow.inPlace==Tryz.prog.inPlace 12)=true:=by kernel_rfl
theorem j2:(Rows.fnAdjsRow.unfollowed==Tryz.prog.unfollowed 12)=true:=by kernel_rfl
theorem j3:(Rows.fnAdjsRow.recurses==Tryz.prog.recurses 12)=true:=by kernel_rfl
end Go.Proofs.YtcobffkepgogiaaGreatDoor.adjs
