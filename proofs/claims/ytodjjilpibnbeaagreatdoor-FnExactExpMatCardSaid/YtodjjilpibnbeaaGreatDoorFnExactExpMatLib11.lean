/- What the proof of this claim stands on: the walks of the functions and the plain laws, part 11. -/
import Derived.Test.YtodjjilpibnbeaaGreatDoorFnExactExpMatLib10
set_option linter.unusedVariables false
set_option linter.unusedSimpArgs false
namespace Go.Proofs.YtodjjilpibnbeaaGreatDoor.expMat
open Go.Joins Go.ChangeShapes Go.WideShapes Go.ChangeAt Go.RowKit Go.Ab
theorem av7:joinedFacts Tryz.prog 6 Tryz.f6 Rows.fnExactExpMatSpec Rows.fnExactExpMatRow=true:=by
 unfold joinedFacts
 rw[j1,j2,j3,j4,j5,ahR]
 kernel_rfl
theorem agR:Rows.FnExactExpMatSaid:=
 OpenClaim.holds_of_wide 6 Tryz.f6 rfl rfl rfl rfl rfl rfl rfl ⟨rfl,rfl,rfl,rfl,rfl⟩ rfl rfl rfl rfl rfl nm Tryz.func6 av7
  (of_decide_eq_true (by kernel_rfl)) (by unfold Func.isWrapper;first|(rw[if_pos (by decide+kernel)];kernel_rfl)|(rw[if_neg (by decide+kernel)];exact⟨rfl,rfl⟩))
  (fun os started H enc _=>av1 os started H enc)
end Go.Proofs.YtodjjilpibnbeaaGreatDoor.expMat
