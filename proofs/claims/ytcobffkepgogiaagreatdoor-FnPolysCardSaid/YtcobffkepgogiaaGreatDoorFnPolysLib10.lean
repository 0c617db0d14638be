/- What the proof of this claim stands on: the walks of the functions and the plain laws, part 10. -/
import Derived.Test.YtcobffkepgogiaaGreatDoorFnPolysLib9
set_option linter.unusedVariables false
set_option linter.unusedSimpArgs false
namespace Go.Proofs.YtcobffkepgogiaaGreatDoor.polys
open Go.Joins Go.ChangeShapes Go.WideShapes Go.ChangeAt Go.RowKit Go.Ab
theorem aPR:joinedFacts Tryz.prog 8 Tryz.f8 Rows.fnPolysSpec Rows.fnPolysRow=true:=by
 unfold joinedFacts
 rw[j1,j2,j3,j4,j5,apX]
 kernel_rfl
theorem aph:Rows.FnPolysSaid:=
 OpenClaim.holds_of_wide 8 Tryz.f8 rfl rfl rfl rfl rfl rfl rfl ⟨rfl,rfl,rfl,rfl,rfl⟩ rfl rfl rfl rfl rfl nm Tryz.func8 aPR
  (of_decide_eq_true (by kernel_rfl)) (by unfold Func.isWrapper;first|(rw[if_pos (by decide+kernel)];kernel_rfl)|(rw[if_neg (by decide+kernel)];exact⟨rfl,rfl⟩))
  (fun os started H enc _=>aPM os started H enc)
end Go.Proofs.YtcobffkepgogiaaGreatDoor.polys
