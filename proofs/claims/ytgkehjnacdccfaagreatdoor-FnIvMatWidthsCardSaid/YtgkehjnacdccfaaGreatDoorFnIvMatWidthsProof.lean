/- A matrix of intervals that is rounded outwards, or made wider, holds what it held; divided by a number and multiplied by it, too; no conditions. -/
import Derived.Test.YtgkehjnacdccfaaGreatDoorFnIvMatWidthsLib11
set_option linter.unusedVariables false
set_option linter.unusedSimpArgs false
namespace Go.Proofs.YtgkehjnacdccfaaGreatDoor.ivMatWidths
open Go.Joins Go.ChangeShapes Go.WideShapes Go.ChangeAt Go.RowKit Go.Ab
theorem proved:Rows.FnIvMatWidthsCardSaid:=
 Claim7.holds_tied_plain_at .later [] [.data,.data] true (true,"9996a56af8a6f1f1fb833fd2ac5e9493db5c09019088f68b23f9fb809d034a2d") false
  arZ (fun _ h=>by cases h) (by kernel_rfl) (fun _ h=>by cases h) fnIvMatWidths_row_tie rfl ⟨rfl,rfl⟩ (by kernel_rfl) rfl
  (fun f fn hf hfn=>by
   obtain rfl:f=7:=Option.some.inj ((show Tryz.prog.funcNamed "loop.example/g00382/laws.FnIvMatWidths" =some 7 by kernel_rfl).symm.trans hf) |>.symm
   obtain rfl:fn=Tryz.f7:=(Option.some.inj (Tryz.func7.symm.trans hfn)).symm
   exact⟨by kernel_rfl,fun j t ht=>by
    rw[Tryz.params7]at ht
    have h3:t=22:=by
     rcases j with _|j
     ·simpa using ht.symm
     ·simp at ht
    subst h3
    exact(show Tryz.prog.wantsStandIn 22=false by kernel_rfl)⟩)
  blW
#print axioms proved
end Go.Proofs.YtgkehjnacdccfaaGreatDoor.ivMatWidths
