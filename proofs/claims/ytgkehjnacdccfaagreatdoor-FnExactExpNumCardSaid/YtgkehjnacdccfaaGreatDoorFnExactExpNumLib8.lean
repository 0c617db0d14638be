/- What the proof of this claim stands on: the walks of the functions and the plain laws, part 8. -/
import Derived.Test.YtgkehjnacdccfaaGreatDoorFnExactExpNumLib7
import Derived.Lib.SmallJoins
set_option linter.unusedVariables false
set_option linter.unusedSimpArgs false
namespace Go.Proofs.YtgkehjnacdccfaaGreatDoor.expNum
open Go.Joins Go.ChangeShapes Go.WideShapes Go.ChangeAt Go.RowKit Go.Ab
theorem aJT:Tryz.prog.cellsOf 87=3:=by kernel_rfl
theorem ag4:Tryz.prog.cellsOf 85=2:=by kernel_rfl
theorem avO:Tryz.prog.cellsOf 83=1:=by kernel_rfl
theorem anO:Tryz.prog.cellsOf 36=1:=by kernel_rfl
theorem cells_int:Tryz.prog.cellsOf 3=1:=by kernel_rfl
theorem cells_bool:Tryz.prog.cellsOf 4=1:=by kernel_rfl
set_option maxRecDepth 100000 in
theorem aRk{H:Type}{enc:TypeId×Value→H}{W:World}{base:Nat}{v:Value}{d:DataW H}{p:List MemPlace}(hv:Value.okWide Tryz.prog W .any base 87 v)
  (h:DataW.Trod enc Tryz.prog W 0 (fun _=>true) true 87 v d p):
  ∃s x e xs,v=.agg #[.bool s,x,.int .i64 e]∧xs.length≤maxLen∧FRep (fun b=>b<W.heap.size) W x (.sl xs.length (qb xs)):=by
 obtain⟨cs,rfl,hsz⟩:=okWide_struct Tryz.underlying87 hv
 obtain⟨c0,c1,c2,rfl⟩:=array3 (hsz.trans aJT)
 obtain⟨fuel,hf⟩:=h
 obtain⟨ys,n,_,_,_,hyl,hg⟩:=DataW.trod_struct Tryz.underlying87 hf
 have g0:DataW.trod enc Tryz.prog W 0 (fun _=>true) true n 85 [c0,c1]=ys[0]? :=by simpa [Value.cells,ag4]using hg 0 _ rfl
 have g1:DataW.trod enc Tryz.prog W 0 (fun _=>true) true n 3 [c2]=ys[1]? :=by simpa [Value.cells,cells_int]using hg 1 _ rfl
 obtain⟨y0,y1,rfl⟩:∃y0 y1,ys=[y0,y1]:=by
  match ys,hyl with
  | [a,b],_=>exact⟨a,b,rfl⟩
 obtain⟨e,e2,_,_⟩:=DataW.trod_int Tryz.underlying3 (g1.trans rfl)
 obtain⟨zs,n2,_,_,_,hzl,hg2⟩:=DataW.trod_struct Tryz.underlying85 (g0.trans rfl)
 have k0:DataW.trod enc Tryz.prog W 0 (fun _=>true) true n2 4 [c0]=zs[0]? :=by simpa [cells_bool]using hg2 0 _ rfl
 have k1:DataW.trod enc Tryz.prog W 0 (fun _=>true) true n2 83 [c1]=zs[1]? :=by simpa [avO]using hg2 1 _ rfl
 obtain⟨z0,z1,rfl⟩:∃z0 z1,zs=[z0,z1]:=by
  match zs,hzl with
  | [a,b],_=>exact⟨a,b,rfl⟩
 obtain⟨s,e0,_⟩:=DataW.trod_bool Tryz.underlying4 (k0.trans rfl)
 obtain⟨us,n3,_,_,_,hul,hg3⟩:=DataW.trod_struct Tryz.underlying83 (k1.trans rfl)
 have l0:DataW.trod enc Tryz.prog W 0 (fun _=>true) true n3 36 [c1]=us[0]? :=by simpa [anO]using hg3 0 _ rfl
 obtain⟨u0,rfl⟩:∃u0,us=[u0]:=by
  match us,hul with
  | [a],_=>exact⟨a,rfl⟩
 obtain⟨x,xs,e1,hm,hr⟩:=aRj Tryz.underlying36 Tryz.underlying3 cells_int (l0.trans rfl)
 cases e0;cases e1;cases e2
 exact⟨_,_,_,xs,rfl,hm,hr⟩
set_option maxRecDepth 100000 in
theorem aW5(os:Os)(started:os.Started)(H:Type)(enc:TypeId×Value→H):
  ReturnsInHanded {} Tryz.checked os 9 .any (fun w args=>(Rows.fnExactExpNumSpec.pre enc Tryz.prog Tryz.f9 [] false w args∧laidMetH Tryz.prog Qm w)∧sizedMet enc Tryz.prog Tryz.f9 (OpenSpec.ofChange Rows.fnExactExpNumSpec) false w args)
   (Rows.fnExactExpNumSpec.post enc Tryz.prog Tryz.f9 false true false false):=by
 refine returnsInHanded_of_change_and (C:=Tryz.checked) (X:=fun w _=>laidMetH Tryz.prog Qm w) (fun _ _ _ hh h=>h.of_heap hh) own started (by kernel_rfl) Tryz.func9
  (ChangeSpec.witness_at (enc:=enc) (C:=Tryz.checked) (os:=os) (X:=fun w _=>laidMetH Tryz.prog Qm w) false (abF os) #[.agg #[.bool false,.slice none 0 0,.int .i64 0],.int .i64 0] 8 rfl (by kernel_rfl) (by kernel_rfl) (by kernel_rfl) (by kernel_rfl) (by kernel_rfl) (Xx os _)) ?_
 intro W base args ds gs before hval0 hW _ _ hL _
 have hval:∀(j:Nat) t v,Tryz.f9.params[j]? =some t→args[j]? =some v→Value.okWide Tryz.prog W .any base t v:=hval0
 have hW':=hW
 obtain⟨p,q,hA0,hV0,rfl,hfz,hnd⟩:=hW
 have hA:DataW.TrodAll enc Tryz.prog W 0 (fun _=>true) true Tryz.f9.params.toList args.toList ds p:=hA0
 have hV:DataW.TrodVars enc Tryz.prog W (fun _=>true) [] gs q:=hV0
 rw[Tryz.params9]at hA hval
 obtain⟨v0,v1,d0,d1,p0,p1,rfl,rfl,rfl,h0,h1⟩:=trodAll_two hA
 obtain⟨m,rfl,rfl,rfl,hwm⟩:=open_int Tryz.underlying3 (hval 1 3 v1 rfl rfl) h1
 have hg:=aP9 hL
 obtain⟨rfl,rfl⟩:gs=[]∧q=[]:=by
  cases gs with
  |nil=>exact⟨rfl,hV⟩
  |cons g r=>exact absurd hV (by intro h;cases h)
 have hlt:∀x∈p0,x.block<W.heap.size:=fun x hx=>by simpa using hW'.lt x (by simpa using hx)
 obtain⟨s,x,e,xs,rfl,hm,hr⟩:=aRk (hval 0 87 v0 rfl rfl) h0
 have ef:Rows.fnExactExpNumSpec.fn H ([d0,.lit (.int .i64 m)]++[])={results:=[.lit (.bool true)],args:=[d0,.lit (.int .i64 m)]}:=by simp[Rows.fnExactExpNumSpec]
 refine((am2 s xs e m (by unfold maxLen at hm;omega)).enter (fun b=>b<W.heap.size) W _ (fun _ h=>h) (aHv (.fr _ _ (am5 (.v _) hr (.v _))) (bi3 _)) (by simp[AllL,AV.All]) hg).mono fun e W' ⟨he,hw⟩=>?_
 subst he
 refine⟨_,rfl,_,_,_,[],p0++[],[],hW',?_,?_,?_,hw.kept _,fun h=>by cases h⟩
 ·rw[ef];exact trodAll_mk1 (shut_bool Tryz.underlying4 true)
 ·rw[ef]
  exact trodAll_mk2 (hw.trod at6 (by kernel_rfl) (of_decide_eq_true (by kernel_rfl)) h0 (fun x hx=>hlt x hx)) (shut_int Tryz.underlying3 hwm)
 ·rw[ef];rfl
end Go.Proofs.YtgkehjnacdccfaaGreatDoor.expNum
