/- What the proof of this claim stands on: the walks of the functions and the plain laws, part 10. -/
import Derived.Test.YtcobffkepgogiaaGreatDoorFnIvMatsLib9
set_option linter.unusedVariables false
set_option linter.unusedSimpArgs false
namespace Go.Proofs.YtcobffkepgogiaaGreatDoor.ivMats
open Go.Joins Go.ChangeShapes Go.WideShapes Go.ChangeAt Go.RowKit Go.Ab
theorem aPx:joinedFacts Tryz.prog 10 Tryz.f10 Rows.fnIvMatsSpec Rows.fnIvMatsRow=true:=by
 unfold joinedFacts
 rw[j1,j2,j3,j4,j5,apM]
 kernel_rfl
theorem ao8:Rows.FnIvMatsSaid:=
 OpenClaim.holds_of_wide 10 Tryz.f10 rfl rfl rfl rfl rfl rfl rfl ⟨rfl,rfl,rfl,rfl,rfl⟩ rfl rfl rfl rfl rfl nm Tryz.func10 aPx
  (of_decide_eq_true (by kernel_rfl)) (by unfold Func.isWrapper;first|(rw[if_pos (by decide+kernel)];kernel_rfl)|(rw[if_neg (by decide+kernel)];exact⟨rfl,rfl⟩))
  (fun os started H enc _=>aPs os started H enc)
end Go.Proofs.YtcobffkepgogiaaGreatDoor.ivMats
