/- What the proof of this claim stands on: the walks of the functions and the plain laws, part 9. -/
import Derived.Test.YtcobffkepgogiaaGreatDoorFnPolyAtsLib8
set_option linter.unusedVariables false
set_option linter.unusedSimpArgs false
namespace Go.Proofs.YtcobffkepgogiaaGreatDoor.polyAts
open Go.Joins Go.ChangeShapes Go.WideShapes Go.ChangeAt Go.RowKit Go.Ab
theorem j4:(Rows.fnPolyAtsRow.named==Tryz.prog.varsNamed 3)=true:=by kernel_rfl
theorem j5:mapsRowed Tryz.prog=true:=by kernel_rfl
theorem nm:Tryz.prog.funcNamed Rows.fnPolyAtsRow.func=some 3:=by kernel_rfl
end Go.Proofs.YtcobffkepgogiaaGreatDoor.polyAts
