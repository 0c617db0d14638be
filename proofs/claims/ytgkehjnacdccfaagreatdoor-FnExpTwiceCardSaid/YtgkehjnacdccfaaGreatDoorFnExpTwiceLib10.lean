/- What the proof of this claim stands on: the walks of the functions and the plain laws, part 10. -/
import Derived.Test.YtgkehjnacdccfaaGreatDoorFnExpTwiceLib9
set_option linter.unusedVariables false
set_option linter.unusedSimpArgs false
namespace Go.Proofs.YtgkehjnacdccfaaGreatDoor.expTwice
open Go.Joins Go.ChangeShapes Go.WideShapes Go.ChangeAt Go.RowKit Go.Ab
theorem aWh:joinedFacts Tryz.prog 3 Tryz.f3 Rows.fnExpTwiceSpec Rows.fnExpTwiceRow=true:=by
 unfold joinedFacts
 rw[j1,j2,j3,j4,j5,ato]
 kernel_rfl
theorem asG:Rows.FnExpTwiceSaid:=
 OpenClaim.holds_of_wide 3 Tryz.f3 rfl rfl rfl rfl rfl rfl rfl ⟨rfl,rfl,rfl,rfl,rfl⟩ rfl rfl rfl rfl rfl nm Tryz.func3 aWh
  (of_decide_eq_true (by kernel_rfl)) (by unfold Func.isWrapper;first|(rw[if_pos (by decide+kernel)];kernel_rfl)|(rw[if_neg (by decide+kernel)];exact⟨rfl,rfl⟩))
  (fun os started H enc _=>aWb os started H enc)
end Go.Proofs.YtgkehjnacdccfaaGreatDoor.expTwice
