/- What the proof of this claim stands on: the walks of the functions and the plain laws, part 11. -/
import Derived.Test.YtgkehjnacdccfaaGreatDoorFnRanksLib10
set_option linter.unusedVariables false
set_option linter.unusedSimpArgs false
namespace Go.Proofs.YtgkehjnacdccfaaGreatDoor.ranks
open Go.Joins Go.ChangeShapes Go.WideShapes Go.ChangeAt Go.RowKit Go.Ab
theorem aTY:joinedFacts Tryz.prog 5 Tryz.f5 Rows.fnRanksSpec Rows.fnRanksRow=true:=by
 unfold joinedFacts
 rw[j1,j2,j3,j4,j5,arM]
 kernel_rfl
theorem aq5:Rows.FnRanksSaid:=
 OpenClaim.holds_of_wide 5 Tryz.f5 rfl rfl rfl rfl rfl rfl rfl ⟨rfl,rfl,rfl,rfl,rfl⟩ rfl rfl rfl rfl rfl nm Tryz.func5 aTY
  (of_decide_eq_true (by kernel_rfl)) (by unfold Func.isWrapper;first|(rw[if_pos (by decide+kernel)];kernel_rfl)|(rw[if_neg (by decide+kernel)];exact⟨rfl,rfl⟩))
  (fun os started H enc _=>aTT os started H enc)
end Go.Proofs.YtgkehjnacdccfaaGreatDoor.ranks
