/- At every argument the program's RootMat returns what the reference's returns, writes into no argument and owns its answer; it holds where the two tables of the library lie as laid. -/
import Derived.Test.YtodjjilpibnbeaaGreatDoorFnExactRootMatLib11
set_option linter.unusedVariables false
set_option linter.unusedSimpArgs false
namespace Go.Proofs.YtodjjilpibnbeaaGreatDoor.rootMat
open Go.Joins Go.ChangeShapes Go.WideShapes Go.ChangeAt Go.RowKit Go.Ab
theorem proved:Rows.FnExactRootMatCardSaid:=
 Claim7.holds_tied_plain_at .later [] [.data,.data] true (true,"ea226aa3cf1fb43955993e90146444fd686ff581a33c439d1575545289c7ffd6") false
  afQ (fun _ h=>by cases h) (by kernel_rfl) (fun _ h=>by cases h) fnExactRootMat_row_tie rfl ⟨rfl,rfl⟩ (by kernel_rfl) rfl
  (fun f fn hf hfn=>by
   obtain rfl:f=4:=Option.some.inj ((show Tryz.prog.funcNamed "loop.example/g00382/laws.FnExactRootMat" =some 4 by kernel_rfl).symm.trans hf) |>.symm
   obtain rfl:fn=Tryz.f4:=(Option.some.inj (Tryz.func4.symm.trans hfn)).symm
   exact⟨by kernel_rfl,fun j t ht=>by
    rw[Tryz.params4]at ht
    have h3:t=36∨t=3:=by
     rcases j with _|_|_|j
     ·exact .inl (by simpa using ht.symm)
     ·exact .inr (by simpa using ht.symm)
     ·exact .inr (by simpa using ht.symm)
     ·simp at ht
    rcases h3 with rfl|rfl
    ·exact(show Tryz.prog.wantsStandIn 36=false by kernel_rfl)
    ·exact(show Tryz.prog.wantsStandIn 3=false by kernel_rfl)⟩)
  aBQ
#print axioms proved
end Go.Proofs.YtodjjilpibnbeaaGreatDoor.rootMat
