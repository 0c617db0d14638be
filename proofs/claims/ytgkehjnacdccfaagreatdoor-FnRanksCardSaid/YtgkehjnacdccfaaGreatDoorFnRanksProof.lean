/- A matrix has full rank exactly if its determinant is not 0; its transpose has the same rank; a product has at most the rank of either factor; no conditions. -/
import Derived.Test.YtgkehjnacdccfaaGreatDoorFnRanksLib12
set_option linter.unusedVariables false
set_option linter.unusedSimpArgs false
namespace Go.Proofs.YtgkehjnacdccfaaGreatDoor.ranks
open Go.Joins Go.ChangeShapes Go.WideShapes Go.ChangeAt Go.RowKit Go.Ab
theorem proved:Rows.FnRanksCardSaid:=
 Claim7.holds_tied_plain_at .later [] [.data,.data] true (true,"9996a56af8a6f1f1fb833fd2ac5e9493db5c09019088f68b23f9fb809d034a2d") false
  aq5 (fun _ h=>by cases h) (by kernel_rfl) (fun _ h=>by cases h) fnRanks_row_tie rfl ⟨rfl,rfl⟩ (by kernel_rfl) rfl
  (fun f fn hf hfn=>by
   obtain rfl:f=5:=Option.some.inj ((show Tryz.prog.funcNamed "loop.example/g00382/laws.FnRanks" =some 5 by kernel_rfl).symm.trans hf) |>.symm
   obtain rfl:fn=Tryz.f5:=(Option.some.inj (Tryz.func5.symm.trans hfn)).symm
   exact⟨by kernel_rfl,fun j t ht=>by
    rw[Tryz.params5]at ht
    have h3:t=22:=by
     rcases j with _|j
     ·simpa using ht.symm
     ·simp at ht
    subst h3
    exact(show Tryz.prog.wantsStandIn 22=false by kernel_rfl)⟩)
  bk2
#print axioms proved
end Go.Proofs.YtgkehjnacdccfaaGreatDoor.ranks
