/- Drawn matrices of intervals, added and multiplied, hold the sum and the product of the middles of theirs: FnIvMats answers true for every code. -/
import Derived.Test.YtcobffkepgogiaaGreatDoorFnIvMatsLib11
set_option linter.unusedVariables false
set_option linter.unusedSimpArgs false
namespace Go.Proofs.YtcobffkepgogiaaGreatDoor.ivMats
open Go.Joins Go.ChangeShapes Go.WideShapes Go.ChangeAt Go.RowKit Go.Ab
theorem proved:Rows.FnIvMatsCardSaid:=
 Claim7.holds_tied_plain_at .later [] [.data,.data] true (true,"06fde09a79272f1241f944b70dd2db7f16b4083008791353653966566114f83e") false
  ao8 (fun _ h=>by cases h) (by kernel_rfl) (fun _ h=>by cases h) fnIvMats_row_tie rfl ⟨rfl,rfl⟩ (by kernel_rfl) rfl
  (fun f fn hf hfn=>by
   obtain rfl:f=10:=Option.some.inj ((show Tryz.prog.funcNamed "loop.example/g00382/laws.FnIvMats" =some 10 by kernel_rfl).symm.trans hf) |>.symm
   obtain rfl:fn=Tryz.f10:=(Option.some.inj (Tryz.func10.symm.trans hfn)).symm
   exact⟨by kernel_rfl,fun j t ht=>by
    rw[Tryz.params10]at ht
    have h3:t=22:=by
     rcases j with _|j
     ·simpa using ht.symm
     ·simp at ht
    subst h3
    exact(show Tryz.prog.wantsStandIn 22=false by kernel_rfl)⟩)
  beD
#print axioms proved
end Go.Proofs.YtcobffkepgogiaaGreatDoor.ivMats
