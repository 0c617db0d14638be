/- The law of an interval's text: for every interval, the program's text of it is the specification's, and it is a fresh one that nothing else holds. -/
import Derived.Test.YtodjjilpibnbeaaFnExactIvTextLib4
import Derived.Test.YtodjjilpibnbeaaRows
import Derived.Handed
import Derived.ChangeSame
import Derived.JoinedOf
import Derived.RowKit
import Derived.WalkKit
import Derived.ProofKit
import Derived.OpenShut
import Derived.LaidLaws
import Derived.Deep.Slices
import Derived.Lib.SmallJoins
set_option linter.unusedVariables false
set_option linter.unusedSimpArgs false
namespace Go.Proofs.Ytodjjilpibnbeaa.ivText
open Go.Joins Go.ChangeShapes Go.WideShapes Go.ChangeAt Go.RowKit Go.Ab
theorem own:ownKnob Try.prog.godebug=none:=by kernel_rfl
theorem aiE:laidOutB Try.prog=true:=by kernel_rfl
theorem XC:Try.prog.cellsOf 50=3:=by kernel_rfl
theorem YU:Try.prog.cellsOf 48=2:=by kernel_rfl
theorem abJ:Try.prog.cellsOf 46=1:=by kernel_rfl
theorem VV:Try.prog.cellsOf 44=1:=by kernel_rfl
theorem cells_int:Try.prog.cellsOf 3=1:=by kernel_rfl
theorem cells_bool:Try.prog.cellsOf 4=1:=by kernel_rfl
theorem afa:Try.prog.cellsOf 52=6:=by kernel_rfl
set_option maxRecDepth 100000 in
theorem Xg{H:Type}{enc:TypeId×Value→H}{W:World}{fuel:Nat}{c0 c1 c2:Value}{y:DataW H×List MemPlace}
  (hf:DataW.trod enc Try.prog W 0 (fun _=>true) true fuel 50 [c0,c1,c2]=some y):
  ∃q:Bool×Int×List Int,c0=.bool q.1∧c2=.int .i64 q.2.1∧q.2.2.length≤maxLen∧FRep (fun b=>b<W.heap.size) W c1 (.sl q.2.2.length (qc q.2.2)):=by
 obtain⟨ys,n,_,_,_,hyl,hg⟩:=DataW.trod_struct Try.underlying50 hf
 have g0:DataW.trod enc Try.prog W 0 (fun _=>true) true n 48 [c0,c1]=ys[0]? :=by simpa [Value.cells,YU]using hg 0 _ rfl
 have g1:DataW.trod enc Try.prog W 0 (fun _=>true) true n 3 [c2]=ys[1]? :=by simpa [Value.cells,cells_int]using hg 1 _ rfl
 obtain⟨y0,y1,rfl⟩:∃y0 y1,ys=[y0,y1]:=by
  match ys,hyl with
  | [a,b],_=>exact⟨a,b,rfl⟩
 obtain⟨e,e2,_,_⟩:=DataW.trod_int Try.underlying3 (g1.trans rfl)
 obtain⟨zs,n2,_,_,_,hzl,hg2⟩:=DataW.trod_struct Try.underlying48 (g0.trans rfl)
 have k0:DataW.trod enc Try.prog W 0 (fun _=>true) true n2 4 [c0]=zs[0]? :=by simpa [cells_bool]using hg2 0 _ rfl
 have k1:DataW.trod enc Try.prog W 0 (fun _=>true) true n2 46 [c1]=zs[1]? :=by simpa [abJ]using hg2 1 _ rfl
 obtain⟨z0,z1,rfl⟩:∃z0 z1,zs=[z0,z1]:=by
  match zs,hzl with
  | [a,b],_=>exact⟨a,b,rfl⟩
 obtain⟨s,e0,_⟩:=DataW.trod_bool Try.underlying4 (k0.trans rfl)
 obtain⟨us,n3,_,_,_,hul,hg3⟩:=DataW.trod_struct Try.underlying46 (k1.trans rfl)
 have l0:DataW.trod enc Try.prog W 0 (fun _=>true) true n3 44 [c1]=us[0]? :=by simpa [VV]using hg3 0 _ rfl
 obtain⟨u0,rfl⟩:∃u0,us=[u0]:=by
  match us,hul with
  | [a],_=>exact⟨a,rfl⟩
 obtain⟨x,xs,e1,hm,hr⟩:=ahS Try.underlying44 Try.underlying3 cells_int (l0.trans rfl)
 cases e0;cases e1;cases e2
 exact⟨⟨_,_,xs⟩,rfl,rfl,hm,hr⟩
set_option maxRecDepth 100000 in
theorem ahR{H:Type}{enc:TypeId×Value→H}{W:World}{base:Nat}{v:Value}{d:DataW H}{p:List MemPlace}(hv:Value.okWide Try.prog W .any base 52 v)
  (h:DataW.Trod enc Try.prog W 0 (fun _=>true) true 52 v d p):
  ∃(s:Bool) (x:Value) (e:Int) (s':Bool) (y:Value) (e':Int) (xs ys:List Int),v=.agg #[.bool s,x,.int .i64 e,.bool s',y,.int .i64 e']∧xs.length≤maxLen∧ys.length≤maxLen∧FRep (fun b=>b<W.heap.size) W x (.sl xs.length (qc xs))∧FRep (fun b=>b<W.heap.size) W y (.sl ys.length (qc ys)):=by
 obtain⟨cs,rfl,hsz⟩:=okWide_struct Try.underlying52 hv
 obtain⟨c0,c1,c2,c3,c4,c5,rfl⟩:∃c0 c1 c2 c3 c4 c5,cs= #[c0,c1,c2,c3,c4,c5]:=by
  have hs2:cs.size=6:=hsz.trans afa
  obtain⟨L⟩:=cs
  match L,hs2 with
  | [a,b,c,d,e,f],_=>exact⟨a,b,c,d,e,f,rfl⟩
 obtain⟨fuel,hf⟩:=h
 obtain⟨ys,n,_,_,_,hyl,hg⟩:=DataW.trod_struct Try.underlying52 hf
 have g0:DataW.trod enc Try.prog W 0 (fun _=>true) true n 50 [c0,c1,c2]=ys[0]? :=by simpa [Value.cells,XC]using hg 0 _ rfl
 have g1:DataW.trod enc Try.prog W 0 (fun _=>true) true n 50 [c3,c4,c5]=ys[1]? :=by simpa [Value.cells,XC]using hg 1 _ rfl
 obtain⟨y0,y1,rfl⟩:∃y0 y1,ys=[y0,y1]:=by
  match ys,hyl with
  | [a,b],_=>exact⟨a,b,rfl⟩
 obtain⟨q,rfl,rfl,h3,h4⟩:=Xg (g0.trans rfl)
 obtain⟨q',rfl,rfl,h5,h6⟩:=Xg (g1.trans rfl)
 exact⟨_,_,_,_,_,_,_,_,rfl,h3,h5,h4,h6⟩
theorem aes{R:Nat→Prop}{w:World}{x0 x1 x2 x3 x4 x5:Value}{a0 a1 a2 a3 a4 a5:AV}(h0:FRep R w x0 a0)(h1:FRep R w x1 a1)(h2:FRep R w x2 a2)(h3:FRep R w x3 a3)(h4:FRep R w x4 a4)(h5:FRep R w x5 a5):FRep R w (.agg #[x0,x1,x2,x3,x4,x5]) (.ag [a0,a1,a2,a3,a4,a5]):=
 .ag _ _ rfl (fun i h=>match i,h with
  |0,_=>h0
  |1,_=>h1
  |2,_=>h2
  |3,_=>h3
  |4,_=>h4
  |5,_=>h5)
set_option maxRecDepth 100000 in
theorem amy(os:Os)(started:os.Started)(H:Type)(enc:TypeId×Value→H):
  ReturnsInHanded {} Try.checked os 5 .any (Rows.fnExactIvTextSpec.pre6 enc Try.prog Try.f5 Rows.fnExactIvTextRow.domain false)
   (Rows.fnExactIvTextSpec.post enc Try.prog Try.f5 false true false false):=by
 refine returnsInHanded_of_change (C:=Try.checked) own started (by kernel_rfl) Try.func5
  (ChangeSpec.witness6 (enc:=enc) (C:=Try.checked) false ⟨#[],#[.agg #[.bool false,.slice none 0 0,.int .i64 0,.bool false,.slice none 0 0,.int .i64 0]],[]⟩ 8 (by kernel_rfl) (by kernel_rfl) (by kernel_rfl) (by kernel_rfl)) ?_
 intro W base args ds gs before hval0 hW hcnd _
 have hval:∀(j:Nat) t v,Try.f5.params[j]? =some t→args[j]? =some v→Value.okWide Try.prog W .any base t v:=hval0
 have hW':=hW
 obtain⟨p,q,hA0,hV,rfl,hfz,hnd⟩:=hW
 have hA:DataW.TrodAll enc Try.prog W 0 (fun _=>true) true Try.f5.params.toList args.toList ds p:=hA0
 rw[Try.params5]at hA hval
 obtain⟨v0,d0,rfl,rfl,h0⟩:=trodAll_one hA
 obtain⟨rfl,rfl⟩:=trodVars_none hV
 have hlt:∀x∈p,x.block<W.heap.size:=fun x hx=>by simpa using hW'.lt x (by simpa using hx)
 have hg:Gd W:=fun g l e=>by cases e
 obtain⟨s,x,e,s',y,e',xs,ys,rfl,hm1,hm2,hr1,hr2⟩:=ahR (hval 0 52 v0 rfl rfl) h0
 have ef:Rows.fnExactIvTextSpec.fn H ([d0]++[])={results:=[.lit (.bool true)],args:=[d0]}:=by simp[Rows.fnExactIvTextSpec]
 refine((Vr ⟨⟨s,xs,e⟩,⟨s',ys,e'⟩⟩ (by dsimp only;unfold maxLen at hm1;omega) (by dsimp only;unfold maxLen at hm2;omega)).enter (fun b=>b<W.heap.size) W _ (fun _ h=>h) (ado (.fr _ _ (aes (.v _) hr1 (.v _) (.v _) hr2 (.v _)))) (by simp[AllL,AV.All]) hg).mono fun e W' ⟨he,hw⟩=>?_
 subst he
 refine⟨_,rfl,_,_,_,[],p,[],hW',?_,?_,?_,hw.kept _,fun h=>by cases h⟩
 ·rw[ef];exact trodAll_mk1 (shut_bool Try.underlying4 true)
 ·rw[ef]
  exact trodAll_mk1 (hw.trod aiE (by kernel_rfl) (of_decide_eq_true (by kernel_rfl)) h0 (fun x hx=>hlt x hx))
 ·rw[ef];rfl
theorem proved:Rows.FnExactIvTextSaid:=
 OpenClaim.holds_of_wide 5 Try.f5 rfl rfl rfl rfl rfl rfl rfl ⟨rfl,rfl,rfl,rfl,rfl⟩ rfl rfl rfl rfl rfl (by kernel_rfl) Try.func5 (by kernel_rfl)
  (of_decide_eq_true (by kernel_rfl)) (by unfold Func.isWrapper;first|(rw[if_pos (by decide+kernel)];kernel_rfl)|(rw[if_neg (by decide+kernel)];exact⟨rfl,rfl⟩))
  (fun os started H enc _=>amy os started H enc)
#print axioms proved
end Go.Proofs.Ytodjjilpibnbeaa.ivText
