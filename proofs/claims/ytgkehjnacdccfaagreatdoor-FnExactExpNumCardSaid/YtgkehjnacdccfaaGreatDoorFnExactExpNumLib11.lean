/- What the proof of this claim stands on: the walks of the functions and the plain laws, part 11. -/
import Derived.Test.YtgkehjnacdccfaaGreatDoorFnExactExpNumLib10
set_option linter.unusedVariables false
set_option linter.unusedSimpArgs false
namespace Go.Proofs.YtgkehjnacdccfaaGreatDoor.expNum
open Go.Joins Go.ChangeShapes Go.WideShapes Go.ChangeAt Go.RowKit Go.Ab
theorem aXa:joinedFacts Tryz.prog 9 Tryz.f9 Rows.fnExactExpNumSpec Rows.fnExactExpNumRow=true:=by
 unfold joinedFacts
 rw[j1,j2,j3,j4,j5,at6]
 kernel_rfl
theorem atm:Rows.FnExactExpNumSaid:=
 OpenClaim.holds_of_wide 9 Tryz.f9 rfl rfl rfl rfl rfl rfl rfl ⟨rfl,rfl,rfl,rfl,rfl⟩ rfl rfl rfl rfl rfl nm Tryz.func9 aXa
  (of_decide_eq_true (by kernel_rfl)) (by unfold Func.isWrapper;first|(rw[if_pos (by decide+kernel)];kernel_rfl)|(rw[if_neg (by decide+kernel)];exact⟨rfl,rfl⟩))
  (fun os started H enc _=>aW5 os started H enc)
end Go.Proofs.YtgkehjnacdccfaaGreatDoor.expNum
