/- What the proof of this claim stands on: the walks of the functions and the plain laws, part 11. -/
import Derived.Test.YtodjjilpibnbeaaGreatDoorFnExactExpHoldLib10
set_option linter.unusedVariables false
set_option linter.unusedSimpArgs false
namespace Go.Proofs.YtodjjilpibnbeaaGreatDoor.expHold
open Go.Joins Go.ChangeShapes Go.WideShapes Go.ChangeAt Go.RowKit Go.Ab
theorem aZx:joinedFacts Tryz.prog 5 Tryz.f5 Rows.fnExactExpHoldSpec Rows.fnExactExpHoldRow=true:=by
 unfold joinedFacts
 rw[j1,j2,j3,j4,j5,avt]
 kernel_rfl
theorem auF:Rows.FnExactExpHoldSaid:=
 OpenClaim.holds_of_wide 5 Tryz.f5 rfl rfl rfl rfl rfl rfl rfl ⟨rfl,rfl,rfl,rfl,rfl⟩ rfl rfl rfl rfl rfl nm Tryz.func5 aZx
  (of_decide_eq_true (by kernel_rfl)) (by unfold Func.isWrapper;first|(rw[if_pos (by decide+kernel)];kernel_rfl)|(rw[if_neg (by decide+kernel)];exact⟨rfl,rfl⟩))
  (fun os started H enc _=>aZr os started H enc)
end Go.Proofs.YtodjjilpibnbeaaGreatDoor.expHold
