/- What the proof of this claim stands on: the walks of the functions and the plain laws, part 7. -/
import Derived.Test.YtodjjilpibnbeaaGreatDoorFnExactRootMatLib6
import Derived.Deep.Slices
import Derived.Lib.SmallJoins
set_option linter.unusedVariables false
set_option linter.unusedSimpArgs false
namespace Go.Proofs.YtodjjilpibnbeaaGreatDoor.rootMat
open Go.Joins Go.ChangeShapes Go.WideShapes Go.ChangeAt Go.RowKit Go.Ab
theorem amy:Tryz.prog.cellsOf 137=3:=by kernel_rfl
theorem aby:Tryz.prog.cellsOf 135=2:=by kernel_rfl
theorem aip:Tryz.prog.cellsOf 133=1:=by kernel_rfl
theorem aet:Tryz.prog.cellsOf 38=1:=by kernel_rfl
theorem cells_int:Tryz.prog.cellsOf 3=1:=by kernel_rfl
theorem cells_bool:Tryz.prog.cellsOf 4=1:=by kernel_rfl
theorem air:Tryz.prog.cellsOf 34=1:=by kernel_rfl
theorem aiq:Tryz.prog.cellsOf 36=2:=by kernel_rfl
set_option maxRecDepth 100000 in
theorem akF{H:Type}{enc:TypeId×Value→H}{W:World}{fuel:Nat}{c0 c1 c2:Value}{y:DataW H×List MemPlace}
  (hf:DataW.trod enc Tryz.prog W 0 (fun _=>true) true fuel 137 [c0,c1,c2]=some y):
  ∃q:Bool×Int×List Int,c0=.bool q.1∧c2=.int .i64 q.2.1∧q.2.2.length≤maxLen∧FRep (fun b=>b<W.heap.size) W c1 (.sl q.2.2.length (qg q.2.2)):=by
 obtain⟨ys,n,_,_,_,hyl,hg⟩:=DataW.trod_struct Tryz.underlying137 hf
 have g0:DataW.trod enc Tryz.prog W 0 (fun _=>true) true n 135 [c0,c1]=ys[0]? :=by simpa [Value.cells,aby]using hg 0 _ rfl
 have g1:DataW.trod enc Tryz.prog W 0 (fun _=>true) true n 3 [c2]=ys[1]? :=by simpa [Value.cells,cells_int]using hg 1 _ rfl
 obtain⟨y0,y1,rfl⟩:∃y0 y1,ys=[y0,y1]:=by
  match ys,hyl with
  | [a,b],_=>exact⟨a,b,rfl⟩
 obtain⟨e,e2,_,_⟩:=DataW.trod_int Tryz.underlying3 (g1.trans rfl)
 obtain⟨zs,n2,_,_,_,hzl,hg2⟩:=DataW.trod_struct Tryz.underlying135 (g0.trans rfl)
 have k0:DataW.trod enc Tryz.prog W 0 (fun _=>true) true n2 4 [c0]=zs[0]? :=by simpa [cells_bool]using hg2 0 _ rfl
 have k1:DataW.trod enc Tryz.prog W 0 (fun _=>true) true n2 133 [c1]=zs[1]? :=by simpa [aip]using hg2 1 _ rfl
 obtain⟨z0,z1,rfl⟩:∃z0 z1,zs=[z0,z1]:=by
  match zs,hzl with
  | [a,b],_=>exact⟨a,b,rfl⟩
 obtain⟨s,e0,_⟩:=DataW.trod_bool Tryz.underlying4 (k0.trans rfl)
 obtain⟨us,n3,_,_,_,hul,hg3⟩:=DataW.trod_struct Tryz.underlying133 (k1.trans rfl)
 have l0:DataW.trod enc Tryz.prog W 0 (fun _=>true) true n3 38 [c1]=us[0]? :=by simpa [aet]using hg3 0 _ rfl
 obtain⟨u0,rfl⟩:∃u0,us=[u0]:=by
  match us,hul with
  | [a],_=>exact⟨a,rfl⟩
 obtain⟨x,xs,e1,hm,hr⟩:=apJ Tryz.underlying38 Tryz.underlying3 cells_int (l0.trans rfl)
 cases e0;cases e1;cases e2
 exact⟨⟨_,_,xs⟩,rfl,rfl,hm,hr⟩
set_option maxRecDepth 100000 in
theorem akE{H:Type}{enc:TypeId×Value→H}{W:World}{fuel:Nat}{cs:List Value}{x:DataW H×List MemPlace}
  (h:DataW.trod enc Tryz.prog W 0 (fun _=>true) true fuel 34 cs=some x):
  ∃(v:Value) (l:List DyV),cs=[v]∧l.length≤maxLen∧(∀d∈l,d.xs.length≤maxLen)∧FRep (fun b=>b<W.heap.size) W v (.sl l.length (qk DyV.cs l)):=by
 rcases Go.Deep.open_slice Tryz.underlying34 h with⟨rfl,_⟩|⟨a,len,cap,m,n,D,Pl,rfl,_,hl,hm,hmm,_,hi⟩
 ·exact⟨_,[],rfl,Nat.zero_le _,fun d hd=>(by cases hd),ack⟩
 have hlm:len≤m:=by rw[hmm,if_pos rfl];exact hl
 have key:∀i:Nat,∃p:(Bool×Int×List Int)×Value,i<len→(W.cell? ((a.add (i*3)).add 0)=some (.bool p.1.1)∧W.cell? ((a.add (i*3)).add 1)=some p.2∧W.cell? ((a.add (i*3)).add 2)=some (.int .i64 p.1.2.1))∧p.1.2.2.length≤maxLen∧FRep (fun b=>b<W.heap.size) W p.2 (.sl p.1.2.2.length (qg p.1.2.2)):=fun i=>by
  by_cases hil:i<len
  ·obtain⟨cs',h1,h2⟩:=hi i (by omega)
   rw[amy]at h1
   obtain⟨-,hlen,hc⟩:=World.cells?_some h1
   obtain⟨c0,c1,c2,rfl⟩:∃c0 c1 c2,cs'=[c0,c1,c2]:=by
    match cs',hlen with
    | [x,y,z],_=>exact⟨x,y,z,rfl⟩
   obtain⟨q,rfl,rfl,q3,q4⟩:=akF h2
   refine⟨⟨q,c1⟩,fun _=>⟨⟨?_,?_,?_⟩,q3,q4⟩⟩
   ·exact hc 0 (by omega)
   ·exact hc 1 (by omega)
   ·exact hc 2 (by omega)
  ·exact⟨⟨⟨false,0,[]⟩,undef⟩,fun h=>absurd h hil⟩
 obtain⟨p,hp⟩:=Classical.axiomOfChoice key
 have hcell:0<len→∃b o,a=⟨b,o,none⟩∧b<W.heap.size:=fun h0=>by
  have h1:=(hp 0 h0).1.1
  have e:(a.add (0*3)).add 0=a:=by simp[Addr.add]
  rw[e]at h1
  have h2:=World.cell?_spot h1
  obtain⟨b,o,sp⟩:=a
  have h3:sp=none:=h2
  subst h3
  exact⟨b,o,rfl,Vt h1⟩
 refine⟨_,(List.range len).map fun i=>⟨(p i).1.1,(p i).1.2.2,(p i).1.2.1⟩,rfl,by simp;omega,fun d hd=>?_,?_⟩
 ·obtain⟨i,hi',rfl⟩:=List.mem_map.1 hd
  exact(hp i (List.mem_range.1 hi')).2.1
 ·rw[List.length_map,List.length_range]
  obtain⟨b,o,sp⟩:=a
  have hT:qk DyV.cs ((List.range len).map fun i=>(⟨(p i).1.1,(p i).1.2.2,(p i).1.2.1⟩:DyV))=jV (fun i=>.v (.bool (p i).1.1)) (fun i=>.sl (p i).1.2.2.length (qg (p i).1.2.2)) (fun i=>.v (.int .i64 (p i).1.2.1)) len:=by
   unfold qk jV qk
   rw[List.map_map];rfl
  rw[hT]
  have hget:∀i (h:i<(jV (fun i=>.v (.bool (p i).1.1)) (fun i=>.sl (p i).1.2.2.length (qg (p i).1.2.2)) (fun i=>.v (.int .i64 (p i).1.2.1)) len).length),i/3<len:=fun i h=>by
   rw[zC]at h;omega
  have hsp:0<len→sp=none:=fun h0=>by
   obtain⟨b',o',e, -⟩:=hcell h0
   exact(Addr.mk.inj e).2.2
  refine .sl _ len cap _ (fun i=>if i % 3=0 then .bool (p (i/3)).1.1 else if i % 3=1 then(p (i/3)).2 else .int .i64 (p (i/3)).1.2.1) b o hl (fun h0=>?_) (fun i hi'=>?_) (fun i hi'=>?_)
  ·rw[zC]at h0
   have hs:=hsp (by omega)
   subst hs
   obtain⟨b',o',e,hb⟩:=hcell (by omega)
   cases e
   exact⟨rfl,hb⟩
  ·have h3:=hget i hi'
   have hs:=hsp (by omega)
   subst hs
   obtain⟨⟨k1,k2,k3⟩, -, -⟩:=hp (i/3) h3
   rcases(show i=i/3*3∨i=i/3*3+1∨i=i/3*3+2 by omega)with h|h|h
   ·rw[if_pos (by omega)]
    rw[YE,YE]at k1
    rwa[show o+i=o+i/3*3+0 by omega]
   ·rw[if_neg (by omega),if_pos (by omega)]
    rw[YE,YE]at k2
    rwa[show o+i=o+i/3*3+1 by omega]
   ·rw[if_neg (by omega),if_neg (by omega)]
    rw[YE,YE]at k3
    rwa[show o+i=o+i/3*3+2 by omega]
  ·have h3:=hget i hi'
   have hg:=ji (S:=fun i=>.v (.bool (p i).1.1)) (X:=fun i=>.sl (p i).1.2.2.length (qg (p i).1.2.2)) (E:=fun i=>.v (.int .i64 (p i).1.2.1)) len i
   rw[if_pos h3,List.getElem?_eq_getElem hi']at hg
   rw[Option.some.inj hg]
   by_cases h0:i % 3=0
   ·rw[if_pos h0,if_pos h0];exact .v _
   ·rw[if_neg h0,if_neg h0]
    by_cases h1:i % 3=1
    ·rw[if_pos h1,if_pos h1]
     exact(hp (i/3) h3).2.2
    ·rw[if_neg h1,if_neg h1];exact .v _
set_option maxRecDepth 100000 in
theorem akD{H:Type}{enc:TypeId×Value→H}{W:World}{base:Nat}{v:Value}{d:DataW H}{p:List MemPlace}(hv:Value.okWide Tryz.prog W .any base 36 v)
  (h:DataW.Trod enc Tryz.prog W 0 (fun _=>true) true 36 v d p):
  ∃k x l,v=.agg #[.int .i64 k,x]∧l.length≤maxLen∧(∀d∈l,d.xs.length≤maxLen)∧FRep (fun b=>b<W.heap.size) W x (.sl l.length (qk DyV.cs l)):=by
 obtain⟨cs,rfl,hsz⟩:=okWide_struct Tryz.underlying36 hv
 obtain⟨c0,c1,rfl⟩:∃c0 c1,cs= #[c0,c1]:=by
  have hs2:cs.size=2:=hsz.trans aiq
  obtain⟨L⟩:=cs
  match L,hs2 with
  | [x,y],_=>exact⟨x,y,rfl⟩
 obtain⟨fuel,hf⟩:=h
 obtain⟨ys,n,_,_,_,hyl,hg⟩:=DataW.trod_struct Tryz.underlying36 hf
 have g0:DataW.trod enc Tryz.prog W 0 (fun _=>true) true n 3 [c0]=ys[0]? :=by simpa [Value.cells,cells_int]using hg 0 _ rfl
 have g1:DataW.trod enc Tryz.prog W 0 (fun _=>true) true n 34 [c1]=ys[1]? :=by simpa [Value.cells,air]using hg 1 _ rfl
 obtain⟨y0,y1,rfl⟩:∃y0 y1,ys=[y0,y1]:=by
  match ys,hyl with
  | [a,b],_=>exact⟨a,b,rfl⟩
 obtain⟨e,e2,_,_⟩:=DataW.trod_int Tryz.underlying3 (g0.trans rfl)
 obtain⟨x,l,e1,h1,h2,h3⟩:=akE (g1.trans rfl)
 cases e1;cases e2
 exact⟨_,_,l,rfl,h1,h2,h3⟩
theorem alG{R:Nat→Prop}{w:World}{x y:Value}{a b:AV}(h1:FRep R w x a)(h2:FRep R w y b):FRep R w (.agg #[x,y]) (.ag [a,b]):=
 .ag _ _ rfl (fun i h=>match i,h with
  |0,_=>h1
  |1,_=>h2)
set_option maxRecDepth 100000 in
theorem auT(os:Os)(started:os.Started)(H:Type)(enc:TypeId×Value→H):
  ReturnsInHanded {} Tryz.checked os 4 .any (fun w args=>(Rows.fnExactRootMatSpec.pre enc Tryz.prog Tryz.f4 [] false w args∧laidMetH Tryz.prog Qn w)∧sizedMet enc Tryz.prog Tryz.f4 (OpenSpec.ofChange Rows.fnExactRootMatSpec) false w args)
   (Rows.fnExactRootMatSpec.post enc Tryz.prog Tryz.f4 false true false false):=by
 refine returnsInHanded_of_change_and (C:=Tryz.checked) (X:=fun w _=>laidMetH Tryz.prog Qn w) (fun _ _ _ hh h=>h.of_heap hh) own started (by kernel_rfl) Tryz.func4
  (ChangeSpec.witness_at (enc:=enc) (C:=Tryz.checked) (os:=os) (X:=fun w _=>laidMetH Tryz.prog Qn w) false (V8 os) #[.agg #[.int .i64 0,.slice none 0 0],.int .i64 0,.int .i64 0] 8 rfl (by kernel_rfl) (by kernel_rfl) (by kernel_rfl) (by kernel_rfl) (by kernel_rfl) (XZ os _)) ?_
 intro W base args ds gs before hval0 hW _ _ hL _
 have hval:∀(j:Nat) t v,Tryz.f4.params[j]? =some t→args[j]? =some v→Value.okWide Tryz.prog W .any base t v:=hval0
 have hW':=hW
 obtain⟨p,q,hA0,hV0,rfl,hfz,hnd⟩:=hW
 have hA:DataW.TrodAll enc Tryz.prog W 0 (fun _=>true) true Tryz.f4.params.toList args.toList ds p:=hA0
 have hV:DataW.TrodVars enc Tryz.prog W (fun _=>true) [] gs q:=hV0
 rw[Tryz.params4]at hA hval
 obtain⟨v0,v1,v2,d0,d1,d2,p0,p1,p2,rfl,rfl,rfl,h0,h1,h2⟩:=trodAll_three hA
 obtain⟨m,rfl,rfl,rfl,hwm⟩:=open_int Tryz.underlying3 (hval 1 3 v1 rfl rfl) h1
 obtain⟨m2,rfl,rfl,rfl,hwm2⟩:=open_int Tryz.underlying3 (hval 2 3 v2 rfl rfl) h2
 have hg:=aoT hL
 obtain⟨rfl,rfl⟩:gs=[]∧q=[]:=by
  cases gs with
  |nil=>exact⟨rfl,hV⟩
  |cons g r=>exact absurd hV (by intro h;cases h)
 have hlt:∀x∈p0,x.block<W.heap.size:=fun x hx=>by simpa using hW'.lt x (by simpa using hx)
 obtain⟨k,x,l,rfl,hm,hmx,hr⟩:=akD (hval 0 36 v0 rfl rfl) h0
 have ef:Rows.fnExactRootMatSpec.fn H ([d0,.lit (.int .i64 m),.lit (.int .i64 m2)]++[])={results:=[.lit (.bool true)],args:=[d0,.lit (.int .i64 m),.lit (.int .i64 m2)]}:=by simp[Rows.fnExactRootMatSpec]
 refine((aaE k l m m2 (by unfold maxLen at hm;omega) (fun d hd=>by have:=hmx d hd;unfold maxLen at this;omega)).enter (fun b=>b<W.heap.size) W _ (fun _ h=>h) (adn (.fr _ _ (alG (.v _) hr)) (atL _) (atL _)) (by simp[AllL,AV.All]) hg).mono fun e W' ⟨he,hw⟩=>?_
 subst he
 refine⟨_,rfl,_,_,_,[],p0++([]++[]),[],hW',?_,?_,?_,hw.kept _,fun h=>by cases h⟩
 ·rw[ef];exact trodAll_mk1 (shut_bool Tryz.underlying4 true)
 ·rw[ef]
  exact trodAll_mk3 (hw.trod agI (by kernel_rfl) (of_decide_eq_true (by kernel_rfl)) h0 (fun x hx=>hlt x hx)) (shut_int Tryz.underlying3 hwm) (shut_int Tryz.underlying3 hwm2)
 ·rw[ef];rfl
end Go.Proofs.YtodjjilpibnbeaaGreatDoor.rootMat
