/- A drawn quotient of intervals, times a divisor, has what was divided, and a root's square has what it is of: FnIvDivs answers true for every code. -/
import Derived.Test.YtcobffkepgogiaaGreatDoorFnIvDivsLib11
set_option linter.unusedVariables false
set_option linter.unusedSimpArgs false
namespace Go.Proofs.YtcobffkepgogiaaGreatDoor.ivDivs
open Go.Joins Go.ChangeShapes Go.WideShapes Go.ChangeAt Go.RowKit Go.Ab
theorem proved:Rows.FnIvDivsCardSaid:=
 Claim7.holds_tied_plain_at .later [] [.data,.data] true (true,"06fde09a79272f1241f944b70dd2db7f16b4083008791353653966566114f83e") false
  aoW (fun _ h=>by cases h) (by kernel_rfl) (fun _ h=>by cases h) fnIvDivs_row_tie rfl ⟨rfl,rfl⟩ (by kernel_rfl) rfl
  (fun f fn hf hfn=>by
   obtain rfl:f=5:=Option.some.inj ((show Tryz.prog.funcNamed "loop.example/g00382/laws.FnIvDivs" =some 5 by kernel_rfl).symm.trans hf) |>.symm
   obtain rfl:fn=Tryz.f5:=(Option.some.inj (Tryz.func5.symm.trans hfn)).symm
   exact⟨by kernel_rfl,fun j t ht=>by
    rw[Tryz.params5]at ht
    have h3:t=22:=by
     rcases j with _|j
     ·simpa using ht.symm
     ·simp at ht
    subst h3
    exact(show Tryz.prog.wantsStandIn 22=false by kernel_rfl)⟩)
  bea
#print axioms proved
end Go.Proofs.YtcobffkepgogiaaGreatDoor.ivDivs
