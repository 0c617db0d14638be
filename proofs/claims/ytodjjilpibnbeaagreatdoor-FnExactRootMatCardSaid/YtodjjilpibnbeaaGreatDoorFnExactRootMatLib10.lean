/- What the proof of this claim stands on: the walks of the functions and the plain laws, part 10. -/
import Derived.Test.YtodjjilpibnbeaaGreatDoorFnExactRootMatLib9
set_option linter.unusedVariables false
set_option linter.unusedSimpArgs false
namespace Go.Proofs.YtodjjilpibnbeaaGreatDoor.rootMat
open Go.Joins Go.ChangeShapes Go.WideShapes Go.ChangeAt Go.RowKit Go.Ab
theorem auZ:joinedFacts Tryz.prog 4 Tryz.f4 Rows.fnExactRootMatSpec Rows.fnExactRootMatRow=true:=by
 unfold joinedFacts
 rw[j1,j2,j3,j4,j5,agI]
 kernel_rfl
theorem afQ:Rows.FnExactRootMatSaid:=
 OpenClaim.holds_of_wide 4 Tryz.f4 rfl rfl rfl rfl rfl rfl rfl ⟨rfl,rfl,rfl,rfl,rfl⟩ rfl rfl rfl rfl rfl nm Tryz.func4 auZ
  (of_decide_eq_true (by kernel_rfl)) (by unfold Func.isWrapper;first|(rw[if_pos (by decide+kernel)];kernel_rfl)|(rw[if_neg (by decide+kernel)];exact⟨rfl,rfl⟩))
  (fun os started H enc _=>auT os started H enc)
end Go.Proofs.YtodjjilpibnbeaaGreatDoor.rootMat
