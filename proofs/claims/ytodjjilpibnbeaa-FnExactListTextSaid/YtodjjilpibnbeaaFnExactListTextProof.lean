/- The law of a list's text: for every list of numbers, the program's text of it is the specification's, and it is a fresh one that nothing else holds. -/
import Derived.Test.YtodjjilpibnbeaaFnExactListTextLib4
import Derived.Test.YtodjjilpibnbeaaRows
import Derived.Handed
import Derived.ChangeSame
import Derived.JoinedOf
import Derived.RowKit
import Derived.WalkKit
import Derived.ProofKit
import Derived.OpenShut
import Derived.LaidLaws
import Derived.Deep.Slices
import Derived.Lib.SmallJoins
set_option linter.unusedVariables false
set_option linter.unusedSimpArgs false
namespace Go.Proofs.Ytodjjilpibnbeaa.listText
open Go.Joins Go.ChangeShapes Go.WideShapes Go.ChangeAt Go.RowKit Go.Ab
theorem own:ownKnob Try.prog.godebug=none:=by kernel_rfl
theorem aiD:laidOutB Try.prog=true:=by kernel_rfl
theorem afl:Try.prog.cellsOf 50=3:=by kernel_rfl
theorem Xc:Try.prog.cellsOf 48=2:=by kernel_rfl
theorem abO:Try.prog.cellsOf 46=1:=by kernel_rfl
theorem VY:Try.prog.cellsOf 44=1:=by kernel_rfl
theorem cells_int:Try.prog.cellsOf 3=1:=by kernel_rfl
theorem cells_bool:Try.prog.cellsOf 4=1:=by kernel_rfl
theorem ano:Try.prog.cellsOf 22=1:=by kernel_rfl
set_option maxRecDepth 100000 in
theorem adI{H:Type}{enc:TypeId×Value→H}{W:World}{fuel:Nat}{c0 c1 c2:Value}{y:DataW H×List MemPlace}
  (hf:DataW.trod enc Try.prog W 0 (fun _=>true) true fuel 50 [c0,c1,c2]=some y):
  ∃q:Bool×Int×List Int,c0=.bool q.1∧c2=.int .i64 q.2.1∧q.2.2.length≤maxLen∧FRep (fun b=>b<W.heap.size) W c1 (.sl q.2.2.length (qi q.2.2)):=by
 obtain⟨ys,n,_,_,_,hyl,hg⟩:=DataW.trod_struct Try.underlying50 hf
 have g0:DataW.trod enc Try.prog W 0 (fun _=>true) true n 48 [c0,c1]=ys[0]? :=by simpa [Value.cells,Xc]using hg 0 _ rfl
 have g1:DataW.trod enc Try.prog W 0 (fun _=>true) true n 3 [c2]=ys[1]? :=by simpa [Value.cells,cells_int]using hg 1 _ rfl
 obtain⟨y0,y1,rfl⟩:∃y0 y1,ys=[y0,y1]:=by
  match ys,hyl with
  | [a,b],_=>exact⟨a,b,rfl⟩
 obtain⟨e,e2,_,_⟩:=DataW.trod_int Try.underlying3 (g1.trans rfl)
 obtain⟨zs,n2,_,_,_,hzl,hg2⟩:=DataW.trod_struct Try.underlying48 (g0.trans rfl)
 have k0:DataW.trod enc Try.prog W 0 (fun _=>true) true n2 4 [c0]=zs[0]? :=by simpa [cells_bool]using hg2 0 _ rfl
 have k1:DataW.trod enc Try.prog W 0 (fun _=>true) true n2 46 [c1]=zs[1]? :=by simpa [abO]using hg2 1 _ rfl
 obtain⟨z0,z1,rfl⟩:∃z0 z1,zs=[z0,z1]:=by
  match zs,hzl with
  | [a,b],_=>exact⟨a,b,rfl⟩
 obtain⟨s,e0,_⟩:=DataW.trod_bool Try.underlying4 (k0.trans rfl)
 obtain⟨us,n3,_,_,_,hul,hg3⟩:=DataW.trod_struct Try.underlying46 (k1.trans rfl)
 have l0:DataW.trod enc Try.prog W 0 (fun _=>true) true n3 44 [c1]=us[0]? :=by simpa [VY]using hg3 0 _ rfl
 obtain⟨u0,rfl⟩:∃u0,us=[u0]:=by
  match us,hul with
  | [a],_=>exact⟨a,rfl⟩
 obtain⟨x,xs,e1,hm,hr⟩:=ahQ Try.underlying44 Try.underlying3 cells_int (l0.trans rfl)
 cases e0;cases e1;cases e2
 exact⟨⟨_,_,xs⟩,rfl,rfl,hm,hr⟩
set_option maxRecDepth 100000 in
theorem adH{H:Type}{enc:TypeId×Value→H}{W:World}{fuel:Nat}{cs:List Value}{x:DataW H×List MemPlace}
  (h:DataW.trod enc Try.prog W 0 (fun _=>true) true fuel 22 cs=some x):
  ∃(v:Value) (l:List DyV),cs=[v]∧l.length≤maxLen∧(∀d∈l,d.xs.length≤maxLen)∧FRep (fun b=>b<W.heap.size) W v (.sl l.length (qj DyV.cs l)):=by
 rcases Go.Deep.open_slice Try.underlying22 h with⟨rfl,_⟩|⟨a,len,cap,m,n,D,Pl,rfl,_,hl,hm,hmm,_,hi⟩
 ·exact⟨_,[],rfl,Nat.zero_le _,fun d hd=>(by cases hd),XG⟩
 have hlm:len≤m:=by rw[hmm,if_pos rfl];exact hl
 have key:∀i:Nat,∃p:(Bool×Int×List Int)×Value,i<len→(W.cell? ((a.add (i*3)).add 0)=some (.bool p.1.1)∧W.cell? ((a.add (i*3)).add 1)=some p.2∧W.cell? ((a.add (i*3)).add 2)=some (.int .i64 p.1.2.1))∧p.1.2.2.length≤maxLen∧FRep (fun b=>b<W.heap.size) W p.2 (.sl p.1.2.2.length (qi p.1.2.2)):=fun i=>by
  by_cases hil:i<len
  ·obtain⟨cs',h1,h2⟩:=hi i (by omega)
   rw[afl]at h1
   obtain⟨-,hlen,hc⟩:=World.cells?_some h1
   obtain⟨c0,c1,c2,rfl⟩:∃c0 c1 c2,cs'=[c0,c1,c2]:=by
    match cs',hlen with
    | [x,y,z],_=>exact⟨x,y,z,rfl⟩
   obtain⟨q,rfl,rfl,q3,q4⟩:=adI h2
   refine⟨⟨q,c1⟩,fun _=>⟨⟨?_,?_,?_⟩,q3,q4⟩⟩
   ·exact hc 0 (by omega)
   ·exact hc 1 (by omega)
   ·exact hc 2 (by omega)
  ·exact⟨⟨⟨false,0,[]⟩,undef⟩,fun h=>absurd h hil⟩
 obtain⟨p,hp⟩:=Classical.axiomOfChoice key
 have hcell:0<len→∃b o,a=⟨b,o,none⟩∧b<W.heap.size:=fun h0=>by
  have h1:=(hp 0 h0).1.1
  have e:(a.add (0*3)).add 0=a:=by simp[Addr.add]
  rw[e]at h1
  have h2:=World.cell?_spot h1
  obtain⟨b,o,sp⟩:=a
  have h3:sp=none:=h2
  subst h3
  exact⟨b,o,rfl,XL h1⟩
 refine⟨_,(List.range len).map fun i=>⟨(p i).1.1,(p i).1.2.2,(p i).1.2.1⟩,rfl,by simp;omega,fun d hd=>?_,?_⟩
 ·obtain⟨i,hi',rfl⟩:=List.mem_map.1 hd
  exact(hp i (List.mem_range.1 hi')).2.1
 ·rw[List.length_map,List.length_range]
  obtain⟨b,o,sp⟩:=a
  have hT:qj DyV.cs ((List.range len).map fun i=>(⟨(p i).1.1,(p i).1.2.2,(p i).1.2.1⟩:DyV))=jh (fun i=>.v (.bool (p i).1.1)) (fun i=>.sl (p i).1.2.2.length (qi (p i).1.2.2)) (fun i=>.v (.int .i64 (p i).1.2.1)) len:=by
   unfold qj jh qj
   rw[List.map_map];rfl
  rw[hT]
  have hget:∀i (h:i<(jh (fun i=>.v (.bool (p i).1.1)) (fun i=>.sl (p i).1.2.2.length (qi (p i).1.2.2)) (fun i=>.v (.int .i64 (p i).1.2.1)) len).length),i/3<len:=fun i h=>by
   rw[zp]at h;omega
  have hsp:0<len→sp=none:=fun h0=>by
   obtain⟨b',o',e, -⟩:=hcell h0
   exact(Addr.mk.inj e).2.2
  refine .sl _ len cap _ (fun i=>if i % 3=0 then .bool (p (i/3)).1.1 else if i % 3=1 then(p (i/3)).2 else .int .i64 (p (i/3)).1.2.1) b o hl (fun h0=>?_) (fun i hi'=>?_) (fun i hi'=>?_)
  ·rw[zp]at h0
   have hs:=hsp (by omega)
   subst hs
   obtain⟨b',o',e,hb⟩:=hcell (by omega)
   cases e
   exact⟨rfl,hb⟩
  ·have h3:=hget i hi'
   have hs:=hsp (by omega)
   subst hs
   obtain⟨⟨k1,k2,k3⟩, -, -⟩:=hp (i/3) h3
   rcases(show i=i/3*3∨i=i/3*3+1∨i=i/3*3+2 by omega)with h|h|h
   ·rw[if_pos (by omega)]
    rw[QC,QC]at k1
    rwa[show o+i=o+i/3*3+0 by omega]
   ·rw[if_neg (by omega),if_pos (by omega)]
    rw[QC,QC]at k2
    rwa[show o+i=o+i/3*3+1 by omega]
   ·rw[if_neg (by omega),if_neg (by omega)]
    rw[QC,QC]at k3
    rwa[show o+i=o+i/3*3+2 by omega]
  ·have h3:=hget i hi'
   have hg:=zJ (S:=fun i=>.v (.bool (p i).1.1)) (X:=fun i=>.sl (p i).1.2.2.length (qi (p i).1.2.2)) (E:=fun i=>.v (.int .i64 (p i).1.2.1)) len i
   rw[if_pos h3,List.getElem?_eq_getElem hi']at hg
   rw[Option.some.inj hg]
   by_cases h0:i % 3=0
   ·rw[if_pos h0,if_pos h0];exact .v _
   ·rw[if_neg h0,if_neg h0]
    by_cases h1:i % 3=1
    ·rw[if_pos h1,if_pos h1]
     exact(hp (i/3) h3).2.2
    ·rw[if_neg h1,if_neg h1];exact .v _
set_option maxRecDepth 100000 in
theorem amn(os:Os)(started:os.Started)(H:Type)(enc:TypeId×Value→H):
  ReturnsInHanded {} Try.checked os 3 .any (Rows.fnExactListTextSpec.pre6 enc Try.prog Try.f3 Rows.fnExactListTextRow.domain false)
   (Rows.fnExactListTextSpec.post enc Try.prog Try.f3 false true false false):=by
 refine returnsInHanded_of_change (C:=Try.checked) own started (by kernel_rfl) Try.func3
  (ChangeSpec.witness6 (enc:=enc) (C:=Try.checked) false ⟨#[],#[.slice none 0 0],[]⟩ 8 (by kernel_rfl) (by kernel_rfl) (by kernel_rfl) (by kernel_rfl)) ?_
 intro W base args ds gs before hval0 hW hcnd _
 have hval:∀(j:Nat) t v,Try.f3.params[j]? =some t→args[j]? =some v→Value.okWide Try.prog W .any base t v:=hval0
 have hW':=hW
 obtain⟨p,q,hA0,hV,rfl,hfz,hnd⟩:=hW
 have hA:DataW.TrodAll enc Try.prog W 0 (fun _=>true) true Try.f3.params.toList args.toList ds p:=hA0
 rw[Try.params3]at hA hval
 obtain⟨v0,d0,rfl,rfl,h0⟩:=trodAll_one hA
 obtain⟨rfl,rfl⟩:=trodVars_none hV
 have hlt:∀x∈p,x.block<W.heap.size:=fun x hx=>by simpa using hW'.lt x (by simpa using hx)
 have hg:Gd W:=fun g l e=>by cases e
 obtain⟨v0',l,e0,hm,hmx,hr⟩:∃(v:Value) (l:List DyV),v0=v∧l.length≤maxLen∧(∀d∈l,d.xs.length≤maxLen)∧FRep (fun b=>b<W.heap.size) W v (.sl l.length (qj DyV.cs l)):=by
  have h0':=h0
  obtain⟨fuel,hf⟩:=h0'
  obtain⟨a,len,cap,rfl⟩:=okWide_slice Try.underlying22 (hval 0 22 v0 rfl rfl)
  obtain⟨v,l,e,h1,h2,h3⟩:=adH hf
  have e':[Value.slice a len cap]=[v]:=e
  obtain rfl:Value.slice a len cap=v:=by simpa using e'
  exact⟨_,l,rfl,h1,h2,h3⟩
 subst e0
 have ef:Rows.fnExactListTextSpec.fn H ([d0]++[])={results:=[.lit (.bool true)],args:=[d0]}:=by simp[Rows.fnExactListTextSpec]
 refine((JN l (by unfold maxLen at hm;omega) (fun d hd=>by have:=hmx d hd;unfold maxLen at this;omega)).enter (fun b=>b<W.heap.size) W _ (fun _ h=>h) (ads (.fr _ _ hr)) (by simp[AllL,AV.All]) hg).mono fun e W' ⟨he,hw⟩=>?_
 subst he
 refine⟨_,rfl,_,_,_,[],p,[],hW',?_,?_,?_,hw.kept _,fun h=>by cases h⟩
 ·rw[ef];exact trodAll_mk1 (shut_bool Try.underlying4 true)
 ·rw[ef]
  exact trodAll_mk1 (hw.trod aiD (by kernel_rfl) (of_decide_eq_true (by kernel_rfl)) h0 (fun x hx=>hlt x hx))
 ·rw[ef];rfl
theorem proved:Rows.FnExactListTextSaid:=
 OpenClaim.holds_of_wide 3 Try.f3 rfl rfl rfl rfl rfl rfl rfl ⟨rfl,rfl,rfl,rfl,rfl⟩ rfl rfl rfl rfl rfl (by kernel_rfl) Try.func3 (by kernel_rfl)
  (of_decide_eq_true (by kernel_rfl)) (by unfold Func.isWrapper;first|(rw[if_pos (by decide+kernel)];kernel_rfl)|(rw[if_neg (by decide+kernel)];exact⟨rfl,rfl⟩))
  (fun os started H enc _=>amn os started H enc)
#print axioms proved
end Go.Proofs.Ytodjjilpibnbeaa.listText
