/- What the proof of this claim stands on: the walks of the functions and the plain laws, part 8. -/
import Derived.Test.YtgkehjnacdccfaaGreatDoorFnRanksLib7
import Derived.Lib.SmallJoins
set_option linter.unusedVariables false
set_option linter.unusedSimpArgs false
namespace Go.Proofs.YtgkehjnacdccfaaGreatDoor.ranks
open Go.Joins Go.ChangeShapes Go.WideShapes Go.ChangeAt Go.RowKit Go.Ab
theorem aG7:Tryz.prog.cellsOf 5=1:=by kernel_rfl
set_option maxRecDepth 100000 in
theorem aTT(os:Os)(started:os.Started)(H:Type)(enc:TypeId×Value→H):
  ReturnsInHanded {} Tryz.checked os 5 .any (fun w args=>(Rows.fnRanksSpec.pre enc Tryz.prog Tryz.f5 [] false w args∧laidMetH Tryz.prog yQ w)∧sizedMet enc Tryz.prog Tryz.f5 (OpenSpec.ofChange Rows.fnRanksSpec) false w args)
   (Rows.fnRanksSpec.post enc Tryz.prog Tryz.f5 false true false false):=by
 refine returnsInHanded_of_change_and (C:=Tryz.checked) (X:=fun w _=>laidMetH Tryz.prog yQ w) (fun _ _ _ hh h=>h.of_heap hh) own started (by kernel_rfl) Tryz.func5
  (ChangeSpec.witness_at (enc:=enc) (C:=Tryz.checked) (os:=os) (X:=fun w _=>laidMetH Tryz.prog yQ w) false (aay os) #[.slice none 0 0] 8 rfl (by kernel_rfl) (by kernel_rfl) (by kernel_rfl) (by kernel_rfl) (by kernel_rfl) (YF os _)) ?_
 intro W base args ds gs before hval0 hW _ hZ hL _
 have hval:∀(j:Nat) t v,Tryz.f5.params[j]? =some t→args[j]? =some v→Value.okWide Tryz.prog W .any base t v:=hval0
 have hW':=hW
 obtain⟨p,q,hA0,hV0,rfl,hfz,hnd⟩:=hW
 have hA:DataW.TrodAll enc Tryz.prog W 0 (fun _=>true) true Tryz.f5.params.toList args.toList ds p:=hA0
 have hV:DataW.TrodVars enc Tryz.prog W (fun _=>true) [] gs q:=hV0
 rw[Tryz.params5]at hA hval
 obtain⟨v0,d0,rfl,rfl,h0⟩:=trodAll_one hA
 have hg:=aNe hL
 obtain⟨rfl,rfl⟩:gs=[]∧q=[]:=by
  cases gs with
  |nil=>exact⟨rfl,hV⟩
  |cons g r=>exact absurd hV (by intro h;cases h)
 have hlt:∀x∈p,x.block<W.heap.size:=fun x hx=>by simpa using hW'.lt x (by simpa using hx)
 obtain⟨v0',l,e0,hm,hr⟩:∃(v:Value) (l:List UInt8),v0=v∧l.length≤140737488351232∧FRep (fun b=>b<W.heap.size) W v (.sl l.length (qp l)):=by
  have h0':=h0
  obtain⟨fuel,hf⟩:=h0'
  obtain⟨a,len,cap,rfl⟩:=okWide_slice Tryz.underlying22 (hval 0 22 v0 rfl rfl)
  obtain⟨v,l,e,h1,h2⟩:=aFb Tryz.underlying22 Tryz.underlying5 aG7 (by kernel_rfl) hf (h1:=rfl) (h2:=rfl) hZ
  have e':[Value.slice a len cap]=[v]:=e
  obtain rfl:Value.slice a len cap=v:=by simpa using e'
  exact⟨_,l,rfl,h1,h2⟩
 subst e0
 have ef:Rows.fnRanksSpec.fn H ([d0]++[])={results:=[.lit (.bool true)],args:=[d0]}:=by simp[Rows.fnRanksSpec]
 refine((arL l hm).enter (fun b=>b<W.heap.size) W _ (fun _ h=>h) (aE0 (.fr _ _ hr)) (by simp[AllL,AV.All]) hg).mono fun e W' ⟨he,hw⟩=>?_
 subst he
 refine⟨_,rfl,_,_,_,[],p,[],hW',?_,?_,?_,hw.kept _,fun h=>by cases h⟩
 ·rw[ef];exact trodAll_mk1 (shut_bool Tryz.underlying4 true)
 ·rw[ef]
  exact trodAll_mk1 (hw.trod arM (by kernel_rfl) (of_decide_eq_true (by kernel_rfl)) h0 (fun x hx=>hlt x hx))
 ·rw[ef];rfl
end Go.Proofs.YtgkehjnacdccfaaGreatDoor.ranks
