/- What the proof of this claim stands on: the walks of the functions and the plain laws, part 10. -/
import Derived.Test.YtgkehjnacdccfaaGreatDoorFnExpBackLib9
set_option linter.unusedVariables false
set_option linter.unusedSimpArgs false
namespace Go.Proofs.YtgkehjnacdccfaaGreatDoor.expBack
open Go.Joins Go.ChangeShapes Go.WideShapes Go.ChangeAt Go.RowKit Go.Ab
theorem aWx:joinedFacts Tryz.prog 4 Tryz.f4 Rows.fnExpBackSpec Rows.fnExpBackRow=true:=by
 unfold joinedFacts
 rw[j1,j2,j3,j4,j5,atj]
 kernel_rfl
theorem asC:Rows.FnExpBackSaid:=
 OpenClaim.holds_of_wide 4 Tryz.f4 rfl rfl rfl rfl rfl rfl rfl ⟨rfl,rfl,rfl,rfl,rfl⟩ rfl rfl rfl rfl rfl nm Tryz.func4 aWx
  (of_decide_eq_true (by kernel_rfl)) (by unfold Func.isWrapper;first|(rw[if_pos (by decide+kernel)];kernel_rfl)|(rw[if_neg (by decide+kernel)];exact⟨rfl,rfl⟩))
  (fun os started H enc _=>aWr os started H enc)
end Go.Proofs.YtgkehjnacdccfaaGreatDoor.expBack
