/- What the proof of this claim stands on: the walks of the functions and the plain laws, part 9. -/
import Derived.Test.YtgkehjnacdccfaaGreatDoorFnRootsLib8
set_option linter.unusedVariables false
set_option linter.unusedSimpArgs false
namespace Go.Proofs.YtgkehjnacdccfaaGreatDoor.roots
open Go.Joins Go.ChangeShapes Go.WideShapes Go.ChangeAt Go.RowKit Go.Ab
theorem j4:(Rows.fnRootsRow.named==Tryz.prog.varsNamed 6)=true:=by kernel_rfl
theorem j5:mapsRowed Tryz.prog=true:=by kernel_rfl
theorem nm:Tryz.prog.funcNamed Rows.fnRootsRow.func=some 6:=by kernel_rfl
end Go.Proofs.YtgkehjnacdccfaaGreatDoor.roots
