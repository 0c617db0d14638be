/- A drawn matrix times its rounded inverse is no farther from one than is told, and that no more than its norm, its size and one step make: FnInverses answers true for every code. -/
import Derived.Test.YtcobffkepgogiaaGreatDoorFnInversesLib11
set_option linter.unusedVariables false
set_option linter.unusedSimpArgs false
namespace Go.Proofs.YtcobffkepgogiaaGreatDoor.inverses
open Go.Joins Go.ChangeShapes Go.WideShapes Go.ChangeAt Go.RowKit Go.Ab
theorem proved:Rows.FnInversesCardSaid:=
 Claim7.holds_tied_plain_at .later [] [.data,.data] true (true,"06fde09a79272f1241f944b70dd2db7f16b4083008791353653966566114f83e") false
  apC (fun _ h=>by cases h) (by kernel_rfl) (fun _ h=>by cases h) fnInverses_row_tie rfl ⟨rfl,rfl⟩ (by kernel_rfl) rfl
  (fun f fn hf hfn=>by
   obtain rfl:f=9:=Option.some.inj ((show Tryz.prog.funcNamed "loop.example/g00382/laws.FnInverses" =some 9 by kernel_rfl).symm.trans hf) |>.symm
   obtain rfl:fn=Tryz.f9:=(Option.some.inj (Tryz.func9.symm.trans hfn)).symm
   exact⟨by kernel_rfl,fun j t ht=>by
    rw[Tryz.params9]at ht
    have h3:t=22:=by
     rcases j with _|j
     ·simpa using ht.symm
     ·simp at ht
    subst h3
    exact(show Tryz.prog.wantsStandIn 22=false by kernel_rfl)⟩)
  bfn
#print axioms proved
end Go.Proofs.YtcobffkepgogiaaGreatDoor.inverses
