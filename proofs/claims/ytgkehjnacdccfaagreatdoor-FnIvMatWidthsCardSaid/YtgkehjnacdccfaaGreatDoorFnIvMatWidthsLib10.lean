/- What the proof of this claim stands on: the walks of the functions and the plain laws, part 10. -/
import Derived.Test.YtgkehjnacdccfaaGreatDoorFnIvMatWidthsLib9
set_option linter.unusedVariables false
set_option linter.unusedSimpArgs false
namespace Go.Proofs.YtgkehjnacdccfaaGreatDoor.ivMatWidths
open Go.Joins Go.ChangeShapes Go.WideShapes Go.ChangeAt Go.RowKit Go.Ab
theorem aUL:joinedFacts Tryz.prog 7 Tryz.f7 Rows.fnIvMatWidthsSpec Rows.fnIvMatWidthsRow=true:=by
 unfold joinedFacts
 rw[j1,j2,j3,j4,j5,asC]
 kernel_rfl
theorem arZ:Rows.FnIvMatWidthsSaid:=
 OpenClaim.holds_of_wide 7 Tryz.f7 rfl rfl rfl rfl rfl rfl rfl ⟨rfl,rfl,rfl,rfl,rfl⟩ rfl rfl rfl rfl rfl nm Tryz.func7 aUL
  (of_decide_eq_true (by kernel_rfl)) (by unfold Func.isWrapper;first|(rw[if_pos (by decide+kernel)];kernel_rfl)|(rw[if_neg (by decide+kernel)];exact⟨rfl,rfl⟩))
  (fun os started H enc _=>aUG os started H enc)
end Go.Proofs.YtgkehjnacdccfaaGreatDoor.ivMatWidths
