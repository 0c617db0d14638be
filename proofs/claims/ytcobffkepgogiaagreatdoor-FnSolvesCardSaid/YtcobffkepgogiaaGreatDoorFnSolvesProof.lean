/- The intervals that hold the solution of drawn equations, put in, hold what they are to be: FnSolves answers true for every code. -/
import Derived.Test.YtcobffkepgogiaaGreatDoorFnSolvesLib11
set_option linter.unusedVariables false
set_option linter.unusedSimpArgs false
namespace Go.Proofs.YtcobffkepgogiaaGreatDoor.solves
open Go.Joins Go.ChangeShapes Go.WideShapes Go.ChangeAt Go.RowKit Go.Ab
theorem proved:Rows.FnSolvesCardSaid:=
 Claim7.holds_tied_plain_at .later [] [.data,.data] true (true,"06fde09a79272f1241f944b70dd2db7f16b4083008791353653966566114f83e") false
  apo (fun _ h=>by cases h) (by kernel_rfl) (fun _ h=>by cases h) fnSolves_row_tie rfl ⟨rfl,rfl⟩ (by kernel_rfl) rfl
  (fun f fn hf hfn=>by
   obtain rfl:f=7:=Option.some.inj ((show Tryz.prog.funcNamed "loop.example/g00382/laws.FnSolves" =some 7 by kernel_rfl).symm.trans hf) |>.symm
   obtain rfl:fn=Tryz.f7:=(Option.some.inj (Tryz.func7.symm.trans hfn)).symm
   exact⟨by kernel_rfl,fun j t ht=>by
    rw[Tryz.params7]at ht
    have h3:t=22:=by
     rcases j with _|j
     ·simpa using ht.symm
     ·simp at ht
    subst h3
    exact(show Tryz.prog.wantsStandIn 22=false by kernel_rfl)⟩)
  beS
#print axioms proved
end Go.Proofs.YtcobffkepgogiaaGreatDoor.solves
