/- What the proof of this claim stands on: the walks of the functions and the plain laws, part 10. -/
import Derived.Test.YtcobffkepgogiaaGreatDoorFnAdjsLib9
set_option linter.unusedVariables false
set_option linter.unusedSimpArgs false
namespace Go.Proofs.YtcobffkepgogiaaGreatDoor.adjs
open Go.Joins Go.ChangeShapes Go.WideShapes Go.ChangeAt Go.RowKit Go.Ab
theorem aO9:joinedFacts Tryz.prog 12 Tryz.f12 Rows.fnAdjsSpec Rows.fnAdjsRow=true:=by
 unfold joinedFacts
 rw[j1,j2,j3,j4,j5,apf]
 kernel_rfl
theorem aoD:Rows.FnAdjsSaid:=
 OpenClaim.holds_of_wide 12 Tryz.f12 rfl rfl rfl rfl rfl rfl rfl ⟨rfl,rfl,rfl,rfl,rfl⟩ rfl rfl rfl rfl rfl nm Tryz.func12 aO9
  (of_decide_eq_true (by kernel_rfl)) (by unfold Func.isWrapper;first|(rw[if_pos (by decide+kernel)];kernel_rfl)|(rw[if_neg (by decide+kernel)];exact⟨rfl,rfl⟩))
  (fun os started H enc _=>aO4 os started H enc)
end Go.Proofs.YtcobffkepgogiaaGreatDoor.adjs
