/- What is held of a number's exponential: the same interval from both, told in rows of its own that no other mark turns -/
import Derived.Test.YtgkehjnacdccfaaGreatDoorFnExactExpNumLib12
set_option linter.unusedVariables false
set_option linter.unusedSimpArgs false
namespace Go.Proofs.YtgkehjnacdccfaaGreatDoor.expNum
open Go.Joins Go.ChangeShapes Go.WideShapes Go.ChangeAt Go.RowKit Go.Ab
theorem proved:Rows.FnExactExpNumCardSaid:=
 Claim7.holds_tied_plain_at .later [] [.data,.data] true (true,"9996a56af8a6f1f1fb833fd2ac5e9493db5c09019088f68b23f9fb809d034a2d") false
  atm (fun _ h=>by cases h) (by kernel_rfl) (fun _ h=>by cases h) fnExactExpNum_row_tie rfl ⟨rfl,rfl⟩ (by kernel_rfl) rfl
  (fun f fn hf hfn=>by
   obtain rfl:f=9:=Option.some.inj ((show Tryz.prog.funcNamed "loop.example/g00382/laws.FnExactExpNum" =some 9 by kernel_rfl).symm.trans hf) |>.symm
   obtain rfl:fn=Tryz.f9:=(Option.some.inj (Tryz.func9.symm.trans hfn)).symm
   exact⟨by kernel_rfl,fun j t ht=>by
    rw[Tryz.params9]at ht
    have h3:t=87∨t=3:=by
     rcases j with _|_|j
     ·exact .inl (by simpa using ht.symm)
     ·exact .inr (by simpa using ht.symm)
     ·simp at ht
    rcases h3 with rfl|rfl
    ·exact(show Tryz.prog.wantsStandIn 87=false by kernel_rfl)
    ·exact(show Tryz.prog.wantsStandIn 3=false by kernel_rfl)⟩)
  boC
#print axioms proved
end Go.Proofs.YtgkehjnacdccfaaGreatDoor.expNum
