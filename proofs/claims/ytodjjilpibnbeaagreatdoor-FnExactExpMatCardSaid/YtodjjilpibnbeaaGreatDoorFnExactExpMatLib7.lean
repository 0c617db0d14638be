/- What the proof of this claim stands on: the walks of the functions and the plain laws, part 7. -/
import Derived.Test.YtodjjilpibnbeaaGreatDoorFnExactExpMatLib6
import Derived.Test.YtodjjilpibnbeaaGreatDoorRows
import Derived.Test.YtodjjilpibnbeaaGreatDoorCards
import Derived.Test.YtodjjilpibnbeaaGreatDoorTie
import Derived.Handed
import Derived.ChangeSame
import Derived.JoinedOf
import Derived.RowKit
import Derived.WalkKit
import Derived.ProofKit
import Derived.OpenShut
import Derived.LaidLaws
import Derived.LaidHandle
import Derived.SevenTiedAt
import Derived.Stop.LaidErr
import Derived.Lib.LaidTab
set_option linter.unusedVariables false
set_option linter.unusedSimpArgs false
namespace Go.Ab
open Go Go.Proofs
/-! ### The specification's rounded exponential-/
set_option maxRecDepth 100000 in
theorem aff(n:Nat)(l:List SpV)(hn:n≤4)(hl:l.length=n*n)(hb:sbd (-390000) 390000 l):Con Tryz.prog 70 false [.ag [.v (.int .i64 (n)),.sl (l).length (qj SpV.cs (l))]] [] (isA (.ag [.v (.int .i64 n),.sl (l.map (fun s=>(Qm s).can)).length (qj ExV.cs (l.map (fun s=>(Qm s).can)))])):=by
 refine Con.frzA ?_
 have hq:=jr hn
 have hpost:l.map (fun s=>(Qm s).can)=mpT l (fun s=>(Qm s).can) (n*n):=by rw[←hl];exact ja.symm
 rw[hpost]
 refine Con.of_aw Tryz.func70 rfl Tryz.ntmps70 (by simp) (by simp) (by simp) (W.sound ?_)
 show @W Tryz.prog 45 ⟨_⟩ ⟨fun x σ=>@qY _ _ _ ⟨_⟩ _ ⟨_⟩ x σ⟩ _ _
 simp(disch:=omega)only[go_sem]
 refine qw (QH n hn) (by simp(disch:=omega)only[go_sem]) ?_
 rintro r hs ⟨rfl,rfl⟩
 refine⟨by simp[qB];simp(disch:=omega)only[go_sem],?_⟩
 simp(disch:=omega)only[go_sem]
 refine qi (fun i:Nat=>[(1,.pt 2 0),(2,.pt 3 0),(3,.pt 4 0),(4,.v (.int .i64 i))])
  (fun i=>[(1,.own 3 (qj ExV.cs (mpT l (fun s=>(Qm s).can) i)++zA (n*n-i) z3)),(2,.own 0 [.v (.int .i64 n),.sl l.length (qj SpV.cs l)]),(3,.own 0 [.v (.int .i64 0),.v (.slice none 0 0)]),(4,.own 0 [.v (.int .i64 n),.rf 1 0 (n*n)])]) (fun i=>i≤n*n) (fun i=>n*n-i) 0 (by omega)
  (Le.lst [(1,100000000),(2,30000000),(3,40000000),(4,50000000)] _ _ rfl (by simp(disch:=omega)only[go_sem]) (by simp(disch:=omega)only[go_sem,Nat.sub_zero,show mpT l (fun s=>(Qm s).can) 0=[] from rfl,Qb,List.nil_append])) ?_
 intro i hi
 simp(disch:=omega)only[go_sem]
 refine qh (fun h1=>?_) (fun h1=>?_)
 ·have hi2:i<n*n:=by omega
  obtain⟨k0,hk0⟩:∃k0,n*n-i=k0+1:=⟨n*n-i-1,by omega⟩
  have hk1:n*n-(i+1)=k0:=by omega
  have hAl:(mpT l (fun s=>(Qm s).can) i).length=i:=qW (by omega)
  have hs:=zK (F:=fun s=>(Qm s).can) sp0 (l:=l) (i:=i) (by omega)
  have hcl:=Xk (L:=l) (i:=i) (by omega)
  have hch:=Xl (L:=l) (i:=i) (by omega)
  have hx:=hb (l.getD i sp0) (by rw[List.getD_eq_getElem?_getD,List.getElem?_eq_getElem (by omega)];exact List.getElem_mem _)
  generalize l.getD i sp0=x at*
  have c1:=jp x.lo x.hi (hx.1.mono (by omega) (by omega)) (hx.2.mono (by omega) (by omega))
  have hu:(Qm x).can=if(x.lo.plus x.hi).can.m=0 then(x.lo.plus x.hi).can else⟨(x.lo.plus x.hi).can.s,(x.lo.plus x.hi).can.m,(x.lo.plus x.hi).can.e-1⟩:=ah9 _
  have bu:=jq (ExV.plus_bd hx.1 hx.2) (by omega) (by omega)
  generalize (x.lo.plus x.hi).can=u at*
  have be:=bu.2.1
  have bt:=bu.2.2
  have hq1:decide ((0:Int)<((lim u.m).length:Int))=decide (u.m≠0):=by
   rw[decide_eq_decide]
   exact⟨fun h e=>by rw[e,qr]at h;simp at h,fun h=>by have:=yG h;omega⟩
  rw[hk0]
  generalize mpT l (fun s=>(Qm s).can) i=A at*
  obtain rfl:A.length=i:=hAl
  simp(disch:=omega)only[go_sem,h1]
  refine qq rfl [⟨0,[],[]⟩,⟨1,[],[]⟩,⟨2,[1],[]⟩,⟨3,[],[]⟩,⟨4,[],[]⟩,⟨5,[],[]⟩,⟨6,[1,5],[]⟩,⟨7,[1,5],[]⟩,⟨8,[1,5,7],[]⟩,⟨9,[1,5],[]⟩,⟨10,[1,5],[]⟩,⟨11,[1,5],[]⟩,⟨13,[1,5,7,11],[]⟩,⟨12,[],[70000000]⟩,⟨14,[],[]⟩] (by kernel_rfl) ?_
  simp(disch:=omega)only[go_sem,hcl,hch]
  refine⟨by omega,by omega,by omega,by omega,?_⟩
  refine qa (c1) ?_
  simp(disch:=omega)only[go_sem]
  by_cases h0:u.m=0
  ·rw[if_pos h0]at hu
   rw[decide_eq_false (show ¬(u.m≠0) from fun h=>h h0)]at hq1
   rw[hu]at hs
   simp(disch:=omega)only[go_sem,hq1]
   rw[ZJ]
   exact⟨by omega,by rw[List.length_append,Zk,J1];omega,qe (A.length+1) [] (by show A.length+1≤n*n;omega) (by show n*n-(A.length+1)<k0+1;omega) rfl (by simp(disch:=omega)only[go_sem];try omega) (by simp(disch:=omega)only[go_sem,hk1,hs])⟩
  ·rw[if_neg h0]at hu
   rw[decide_eq_true (show u.m≠0 from h0)]at hq1
   rw[hu]at hs
   have hfill:=@ZJ A k0 ⟨u.s,u.m,u.e-1⟩
   dsimp only at hfill
   simp(disch:=omega)only[go_sem,hq1]
   rw[hfill]
   exact⟨by omega,by rw[List.length_append,Zk,J1];omega,qe (A.length+1) [] (by show A.length+1≤n*n;omega) (by show n*n-(A.length+1)<k0+1;omega) rfl (by simp(disch:=omega)only[go_sem];try omega) (by simp(disch:=omega)only[go_sem,hk1,hs])⟩
 ·simp(disch:=omega)only[go_sem,h1]
  obtain rfl:i=n*n:=by omega
  have hll:(mpT l (fun s=>(Qm s).can) (n*n)).length=n*n:=qW (by omega)
  rw[hll]
  refine ql [(0,1)] [.own 3 (qj ExV.cs (mpT l (fun s=>(Qm s).can) (n*n)))] [] [.ag [.v (.int .i64 n),.rf 0 0 (n*n)]] rfl (by simp(disch:=omega)only[go_sem]) (by simp(disch:=omega)only[go_sem,Nat.sub_self,Qh,List.append_nil]) (by simp) (by simp) ?_
  show qD _ 6 _=_
  simp(disch:=omega)only[go_sem,qJ,zp hll]
set_option maxRecDepth 100000 in
theorem acj(n:Nat)(l:List ExV)(low md:Int)(hn:n≤4)(hl:l.length=n*n)(hcn:∀x∈l,x.can=x)(hm:0≤md∧md≤4)(hb:gbd (-400000) 400000 l)(hlo: -400000≤low∧low≤400000):Con Tryz.prog 41 false [.ag [.v (.int .i64 (n)),.sl (l).length (qj ExV.cs (l))],.v (.int .i64 low),.v (.int .i64 md)] [] (isA (.ag [.v (.int .i64 n),.sl (l.map (fun x=>(x.rnd low md).can)).length (qj ExV.cs (l.map (fun x=>(x.rnd low md).can)))])):=by
 refine Con.frzA ?_
 have hq:=jr hn
 have hpost:l.map (fun x=>(x.rnd low md).can)=mpT l (fun x=>(x.rnd low md).can) (n*n):=by rw[←hl];exact ja.symm
 rw[hpost]
 refine Con.of_aw Tryz.func41 rfl Tryz.ntmps41 (by simp) (by simp) (by simp) (W.sound ?_)
 show @W Tryz.prog 35 ⟨_⟩ ⟨fun x σ=>@qY _ _ _ ⟨_⟩ _ ⟨_⟩ x σ⟩ _ _
 simp(disch:=omega)only[go_sem]
 refine qw (QH n hn) (by simp(disch:=omega)only[go_sem]) ?_
 rintro r hs ⟨rfl,rfl⟩
 refine⟨by simp[qB];simp(disch:=omega)only[go_sem],?_⟩
 simp(disch:=omega)only[go_sem]
 refine qi (fun i:Nat=>[(1,.v (.int .i64 low)),(2,.v (.int .i64 md)),(3,.pt 2 0),(6,.pt 3 0),(7,.pt 4 0),(8,.v (.int .i64 i))])
  (fun i=>[(1,.own 3 (qj ExV.cs (mpT l (fun x=>(x.rnd low md).can) i)++zA (n*n-i) z3)),(2,.own 0 [.v (.int .i64 n),.sl l.length (qj ExV.cs l)]),(3,.own 0 [.v (.int .i64 0),.v (.slice none 0 0)]),(4,.own 0 [.v (.int .i64 n),.rf 1 0 (n*n)])]) (fun i=>i≤n*n) (fun i=>n*n-i) 0 (by omega)
  (Le.lst [(1,130000000),(2,50000000),(3,80000000),(4,90000000)] _ _ rfl (by simp(disch:=omega)only[go_sem]) (by simp(disch:=omega)only[go_sem,Nat.sub_zero,show mpT l (fun x=>(x.rnd low md).can) 0=[] from rfl,Qb,List.nil_append])) ?_
 intro i hi
 simp(disch:=omega)only[go_sem]
 refine qh (fun h1=>?_) (fun h1=>?_)
 ·have hi2:i<n*n:=by omega
  obtain⟨k0,hk0⟩:∃k0,n*n-i=k0+1:=⟨n*n-i-1,by omega⟩
  have hk1:n*n-(i+1)=k0:=by omega
  have hAl:(mpT l (fun x=>(x.rnd low md).can) i).length=i:=qW (by omega)
  have hs:=zK (F:=fun x=>(x.rnd low md).can) ex0 (l:=l) (i:=i) (by omega)
  have hc:=zM (l:=l) (i:=i) (by omega)
  have hmem:l.getD i ex0∈l:=by rw[List.getD_eq_getElem?_getD,List.getElem?_eq_getElem (by omega)];exact List.getElem_mem _
  have hx:=hb _ hmem
  have hcx:=hcn _ hmem
  generalize l.getD i ex0=x at*
  have c1:=jU x low md hcx hm hx hlo
  generalize (x.rnd low md).can=w at*
  rw[hk0]
  generalize mpT l (fun x=>(x.rnd low md).can) i=A at*
  obtain rfl:A.length=i:=hAl
  simp(disch:=omega)only[go_sem,h1]
  refine qq rfl [⟨0,[],[]⟩,⟨1,[],[]⟩,⟨2,[1],[]⟩,⟨3,[1],[]⟩,⟨4,[1],[]⟩,⟨5,[1,4],[]⟩,⟨6,[1],[]⟩,⟨7,[1],[]⟩,⟨8,[1,4,7],[]⟩,⟨9,[1,4,7],[]⟩,⟨10,[1],[]⟩,⟨11,[1],[]⟩,⟨12,[1],[]⟩,⟨13,[1],[]⟩,⟨14,[],[]⟩,⟨15,[],[]⟩] (by kernel_rfl) ?_
  simp(disch:=omega)only[go_sem,hc]
  refine⟨by omega,by omega,?_⟩
  refine qa (c1) ?_
  simp(disch:=omega)only[go_sem]
  rw[ZJ]
  exact⟨by omega,by rw[List.length_append,Zk,J1];omega,qe (A.length+1) [] (by show A.length+1≤n*n;omega) (by show n*n-(A.length+1)<k0+1;omega) rfl (by simp(disch:=omega)only[go_sem];try omega) (by simp(disch:=omega)only[go_sem,hk1,hs])⟩
 ·simp(disch:=omega)only[go_sem,h1]
  obtain rfl:i=n*n:=by omega
  have hll:(mpT l (fun x=>(x.rnd low md).can) (n*n)).length=n*n:=qW (by omega)
  rw[hll]
  refine ql [(0,1)] [.own 3 (qj ExV.cs (mpT l (fun x=>(x.rnd low md).can) (n*n)))] [] [.ag [.v (.int .i64 n),.rf 0 0 (n*n)]] rfl (by simp(disch:=omega)only[go_sem]) (by simp(disch:=omega)only[go_sem,Nat.sub_self,Qh,List.append_nil]) (by simp) (by simp) ?_
  show qD _ 6 _=_
  simp(disch:=omega)only[go_sem,qJ,zp hll]
theorem awt{lo hi:Int}{v:SpV}{x:ExV}(hv:v.bd lo hi)(hx:x.bd lo hi)(h1:lo≤0)(h2:0≤hi):(fwC v x).bd lo (hi+1):=by
 have a:=ExV.abs_bd (jq (ExV.plus_bd hv.2 (ExV.neg_bd hx)) h1 (by omega))
 have b:=ExV.abs_bd (jq (ExV.plus_bd hx (ExV.neg_bd hv.1)) h1 (by omega))
 unfold fwC
 rcases QT (v.hi.plus x.neg).can.abs (x.plus v.lo.neg).can.abs with e|e<;>rw[e]<;>assumption
set_option maxRecDepth 100000 in
theorem afe(n:Nat)(V:List SpV)(X:List ExV)(hn:n≤4)(hV:V.length=n*n)(hX:X.length=n*n)(bV:sbd (-380000) 380000 V)(bX:gbd (-380000) 380000 X):Con Tryz.prog 71 false [.ag [.v (.int .i64 (n)),.sl (V).length (qj SpV.cs (V))],.ag [.v (.int .i64 (n)),.sl (X).length (qj ExV.cs (X))]] [] (isA (.ag [.v (.bool ((qR n (fwL V X (n*n)) n).can).s),.sl (lim ((qR n (fwL V X (n*n)) n).can).m).length (qg (lim ((qR n (fwL V X (n*n)) n).can).m)),.v (.int .i64 ((qR n (fwL V X (n*n)) n).can).e)])):=by
 refine Con.frzA ?_
 have hq:=jr hn
 have bF:gbd (-390000) 390000 (fwL V X (n*n)):=fun x hx=>by
  obtain⟨i,hi,rfl⟩:=List.mem_map.1 hx
  have hi:=List.mem_range.1 hi
  exact(awt (zD bV (by omega)) (zE bX (by omega)) (by omega) (by omega)).mono (by omega) (by omega)
 have cN:=Jk n (fwL V X (n*n)) hn VL bF
 refine Con.of_aw Tryz.func71 rfl Tryz.ntmps71 (by simp) (by simp) (by simp) (AW.front2 ?_)
 show @W Tryz.prog 56 ⟨_⟩ ⟨fun x σ=>@yv ⟨_⟩ ⟨_⟩ x σ⟩ _ _
 simp(disch:=omega)only[go_sem]
 refine qw (QH n hn) (by simp(disch:=omega)only[go_sem]) ?_
 rintro r hs ⟨rfl,rfl⟩
 refine⟨by simp[qB];simp(disch:=omega)only[go_sem],?_⟩
 simp(disch:=omega)only[go_sem]
 refine AW.seqLe (E:=[(4,.pt 4 0),(5,.pt 5 0)]) (H:=[(4,.own 0 [.v (.bool false),.v (.slice none 0 0),.v (.int .i64 0)]),(5,.own 0 [.v (.int .i64 n),.sl (n*n) (qj ExV.cs (fwL V X (n*n)))])]) (W.sound ?_) (W.sound ?_)
 ·show @W Tryz.prog 56 ⟨_⟩ ⟨_⟩ _ _
  simp(disch:=omega)only[go_sem]
  refine qi (fun i:Nat=>[(2,.pt 2 0),(3,.pt 3 0),(4,.pt 4 0),(5,.pt 5 0),(6,.v (.int .i64 i))])
   (fun i=>[(1,.own 3 (qj ExV.cs (fwL V X i)++zA (n*n-i) z3)),(2,.own 0 [.v (.int .i64 n),.sl V.length (qj SpV.cs V)]),(3,.own 0 [.v (.int .i64 n),.sl X.length (qj ExV.cs X)]),(4,.own 0 [.v (.bool false),.v (.slice none 0 0),.v (.int .i64 0)]),(5,.own 0 [.v (.int .i64 n),.rf 1 0 (n*n)])]) (fun i=>i≤n*n) (fun i=>n*n-i) 0 (by omega)
   (Le.lst [(1,130000000),(2,40000000),(3,50000000),(4,60000000),(5,70000000)] _ _ rfl (by simp(disch:=omega)only[go_sem]) (by simp(disch:=omega)only[go_sem,Nat.sub_zero,show fwL V X 0=[] from rfl,Qb,List.nil_append])) ?_
  intro i hi
  simp(disch:=omega)only[go_sem]
  refine qh (fun h1=>?_) (fun h1=>?_)
  ·have hi2:i<n*n:=by omega
   obtain⟨k0,hk0⟩:∃k0,n*n-i=k0+1:=⟨n*n-i-1,by omega⟩
   have hk1:n*n-(i+1)=k0:=by omega
   have hAl:(fwL V X i).length=i:=VL
   have hs:=@amS V X i
   have hcl:=Xk (L:=V) (i:=i) (by omega)
   have hch:=Xl (L:=V) (i:=i) (by omega)
   have hc:=zM (l:=X) (i:=i) (by omega)
   have hv:=zD bV (show i<V.length by omega)
   have hx:=zE bX (show i<X.length by omega)
   unfold fwC at hs
   generalize V.getD i sp0=v at*
   generalize X.getD i ex0=x at*
   have c1:=Jl x (hx.mono (by omega) (by omega))
   have c2:=jp v.hi x.neg (hv.2.mono (by omega) (by omega)) ((ExV.neg_bd hx).mono (by omega) (by omega))
   have c3:=Jl v.lo (hv.1.mono (by omega) (by omega))
   have c4:=jp x v.lo.neg (hx.mono (by omega) (by omega)) ((ExV.neg_bd hv.1).mono (by omega) (by omega))
   have b2:=jq (ExV.plus_bd hv.2 (ExV.neg_bd hx)) (by omega) (by omega)
   have b4:=jq (ExV.plus_bd hx (ExV.neg_bd hv.1)) (by omega) (by omega)
   generalize (v.hi.plus x.neg).can=u1 at*
   generalize (x.plus v.lo.neg).can=u2 at*
   generalize x.neg=xn at*
   generalize v.lo.neg=vn at*
   have lb:∀y:ExV,y.bd (-380000) (380000+1)→(lim y.m).length≤2^39:=fun y h=>by
    have:=qv (m:=y.m) (B:=800000) (by have:=h.2.1;have:=h.2.2;omega)
    omega
   have a1:=YL u1 (lb _ b2)
   have a2:=YL u2 (lb _ b4)
   have cm:=Zm u1.abs u2.abs ((ExV.abs_bd b2).mono (by omega) (by omega)) ((ExV.abs_bd b4).mono (by omega) (by omega))
   generalize u1.abs=w1 at*
   generalize u2.abs=w2 at*
   generalize qT w1 w2=w at*
   rw[hk0]
   generalize fwL V X i=A at*
   obtain rfl:A.length=i:=hAl
   simp(disch:=omega)only[go_sem,h1]
   refine qq rfl [⟨0,[],[]⟩,⟨1,[],[]⟩,⟨2,[1],[]⟩,⟨3,[],[]⟩,⟨4,[],[]⟩,⟨5,[],[]⟩,⟨6,[1,5],[]⟩,⟨7,[1,5],[]⟩,⟨8,[1,5,7],[]⟩,⟨9,[1,5],[]⟩,⟨10,[1,5],[]⟩,⟨14,[1,5,7,10],[]⟩,⟨11,[1,5],[90000000]⟩,⟨12,[],[90000000]⟩,⟨13,[],[90000000]⟩,⟨15,[],[]⟩] (by kernel_rfl) ?_
   simp(disch:=omega)only[go_sem,hch,hc]
   refine⟨by omega,by omega,by omega,by omega,?_⟩
   refine qa (c1) ?_
   simp(disch:=omega)only[go_sem]
   refine qa (c2) ?_
   simp(disch:=omega)only[go_sem]
   refine qa (a1) ?_
   simp(disch:=omega)only[go_sem]
   refine qq rfl [⟨0,[],[]⟩,⟨1,[],[]⟩,⟨2,[1],[]⟩,⟨3,[],[]⟩,⟨4,[],[]⟩,⟨5,[1,4],[]⟩,⟨6,[1,4],[]⟩,⟨7,[1,4,6],[]⟩,⟨8,[1,4],[]⟩,⟨9,[1,4],[]⟩,⟨10,[1,4],[]⟩,⟨14,[1,4,6,10],[]⟩,⟨11,[1,4],[100000000]⟩,⟨12,[],[100000000]⟩,⟨13,[],[100000000]⟩,⟨15,[],[]⟩] (by kernel_rfl) ?_
   simp(disch:=omega)only[go_sem,hcl,hc]
   refine⟨by omega,by omega,by omega,by omega,?_⟩
   refine qa (c3) ?_
   simp(disch:=omega)only[go_sem]
   refine qa (c4) ?_
   simp(disch:=omega)only[go_sem]
   refine qa (a2) ?_
   simp(disch:=omega)only[go_sem]
   refine qq rfl [⟨0,[],[]⟩,⟨1,[],[]⟩,⟨2,[1],[]⟩,⟨3,[1],[]⟩,⟨4,[1,3],[]⟩,⟨5,[1],[]⟩,⟨6,[],[]⟩,⟨7,[],[]⟩] (by kernel_rfl) ?_
   simp(disch:=omega)only[go_sem]
   refine qa (cm) ?_
   simp(disch:=omega)only[go_sem]
   rw[ZJ]
   exact⟨by omega,by rw[List.length_append,Zk,J1];omega,qe (A.length+1) [] (by show A.length+1≤n*n;omega) (by show n*n-(A.length+1)<k0+1;omega) rfl (by simp(disch:=omega)only[go_sem];try omega) (by simp(disch:=omega)only[go_sem,hk1,hs])⟩
  ·simp(disch:=omega)only[go_sem,h1]
   obtain rfl:i=n*n:=by omega
   exact(Le.frz 1 (z:=3) (ks:=qj ExV.cs (fwL V X (n*n))) (by simp(disch:=omega)only[go_sem,Nat.sub_self,Qh,List.append_nil]) rfl (by simp(disch:=omega)only[go_sem])).trans (Le.lst [] _ _ rfl (by simp(disch:=omega)only[go_sem]) (by simp(disch:=omega)only[go_sem,zp VL]))
 ·have hfl:(fwL V X (n*n)).length=n*n:=VL
  rw[hfl]at cN
  generalize fwL V X (n*n)=A at*
  show @W Tryz.prog 56 ⟨_⟩ ⟨fun x σ=>@qY _ _ _ ⟨_⟩ _ ⟨_⟩ x σ⟩ _ _
  simp(disch:=omega)only[go_sem]
  refine qa (cN) ?_
  simp(disch:=omega)only[go_sem]
  exact qn
end Go.Ab
namespace Go.Ab
open Go Go.Proofs
def mnS(n:Nat)(X:List ExV)(y:ExV):AV:=if(X.all ExV.fit&&y.fit)=true then .tu [.ag [.v (.int .i64 (n)),.sl (X.map ExV.can).length (qj ExV.cs (X.map ExV.can))],.ag [.v (.bool (y.can).s),.sl (lim (y.can).m).length (qg (lim (y.can).m)),.v (.int .i64 (y.can).e)],.v (.bool true)]else .tu [.ag [.v (.int .i64 0),.sl 0 []],.ag [.v (.bool (false)),.sl (lim (0)).length (qg (lim (0))),.v (.int .i64 (0))],.v (.bool false)]
theorem apj{n:Nat}{L:List ExV}{low:Int}(h:matV n L)(f:askF n L low):sbd (-37888) 73473 (exH n L low):=by
 have hB:=f.B
 have hlo:=f.lo
 have hw:=f.w
 exact amK h.n4 f.s8 (by omega) (by omega) (by omega) f.bd
theorem afv(n:Nat)(I:List ExV)(h1:1≤n)(h4:n≤4)(hl:I.length=n*n)(hb:gbd (-400000) 400000 I):Con Tryz.prog 44 true [.ag [.v (.int .i64 (n)),.sl (I.map ExV.can).length (qj ExV.cs (I.map ExV.can))]] [] (isA (.v (.bool (I.all ExV.fit)))):=by
 have hq:=jr h4
 have cM:=YU n ((I.map ExV.can).map ExV.dyv) (by rw[List.length_map,List.length_map];omega) (fun d hd=>by
  obtain⟨x,hx,rfl⟩:=List.mem_map.1 hd
  have hx2:x.bd (-400000) 400000:=by
   obtain⟨y,hy,rfl⟩:=List.mem_map.1 hx
   exact jq (hb y hy) (by omega) (by omega)
  have:=qv (m:=x.m) (B:=800000) (by have:=hx2.2.1;have:=hx2.2.2;omega)
  show(lim x.m).length≤_
  omega)
 rw[amw h1 h4 hl,JS,List.length_map]at cM
 exact cM
theorem ajE(y:ExV)(hb:y.bd (-400000) 400000):Con Tryz.prog 48 true [.ag [.v (.bool (y.can).s),.sl (lim (y.can).m).length (qg (lim (y.can).m)),.v (.int .i64 (y.can).e)]] [] (isA (.v (.bool y.fit))):=by
 have b:=jq hb (by omega) (by omega)
 have l:=qv (m:=y.can.m) (B:=800000) (by have:=b.2.1;have:=b.2.2;omega)
 have k:=QJ y.can.s (lim y.can.m) y.can.e (by omega)
 rw[show dyB y.can.s (lim y.can.m) y.can.e=y.fit from ajN y]at k
 exact k
theorem acD(n:Nat)(L:List ExV)(low:Int)(h:matV n L)(ha:afO n L low=true):Con Tryz.prog 27 false [.ag [.v (.int .i64 (n)),.sl (L).length (qj ExV.cs (L))],.v (.int .i64 low)] [] (isA (mnS n (QE n (exH n L low) low) (zI n (exH n L low) low))):=by
 refine Con.frzA ?_
 have f:=QM h ha
 have hlo:=f.lo
 have hq:=jr h.n4
 have ch:=Ke n L low h ha
 have hH:(exH n L low).length=n*n:=yI
 have bH:=apj h f
 have hT:exT n L low=(exH n L low).map SpV.can:=rfl
 rw[hT]at ch
 have bT:sbd (-37888) 73473 ((exH n L low).map SpV.can):=yw bH (by omega) (by omega)
 have lT:((exH n L low).map SpV.can).length=n*n:=by rw[List.length_map];exact hH
 have cm:=aff n _ h.n4 lT (qy bT (by omega) (by omega))
 have lM:(((exH n L low).map SpV.can).map fun s=>(Qm s).can).length=n*n:=by rw[List.length_map];exact lT
 have bM:gbd (-37889) 73473 (((exH n L low).map SpV.can).map fun s=>(Qm s).can):=fun x hx=>by
  obtain⟨s,hs,rfl⟩:=List.mem_map.1 hx
  exact jq (abF (bT s hs)) (by omega) (by omega)
 have cr:=acj n (((exH n L low).map SpV.can).map fun s=>(Qm s).can) low 0 h.n4 lM (fun x hx=>by
  obtain⟨s,hs,rfl⟩:=List.mem_map.1 hx
  exact Jo _) (by omega) (zC bM (by omega) (by omega)) (by omega)
 rw[anl hH]at cr
 have hXl:(QE n (exH n L low) low).length=n*n:=by unfold QE akp;exact jw
 have hXb:gbd (-37889) 73474 (QE n (exH n L low) low):=aid (lo:= -37889) (hi:=73473) (n:=n) (l:=(exH n L low).map Qm) (by rw[List.length_map];exact hH) (fun x hx=>by
  obtain⟨s,hs,rfl⟩:=List.mem_map.1 hx
  exact(abF (bH s hs)).mono (show(-37889:Int)≤_ by omega) (Int.le_refl _)) (by omega) (by omega)
 have bXc:gbd (-37889) 73474 ((QE n (exH n L low) low).map ExV.can):=fun x hx=>by
  obtain⟨y,hy,rfl⟩:=List.mem_map.1 hx
  exact jq (hXb y hy) (by omega) (by omega)
 have cf:=afe n ((exH n L low).map SpV.can) ((QE n (exH n L low) low).map ExV.can) h.n4 lT (by rw[List.length_map];exact hXl) (qy bT (by omega) (by omega)) (zC bXc (by omega) (by omega))
 rw[asm,aey]at cf
 change Con _ _ _ _ _ (isA (.ag [.v (.bool ((zI n (exH n L low) low).can).s),.sl (lim ((zI n (exH n L low) low).can).m).length (qg (lim ((zI n (exH n L low) low).can).m)),.v (.int .i64 ((zI n (exH n L low) low).can).e)]))at cf
 have hOb:gbd (-37889) 73475 (aba (exH n L low) (QE n (exH n L low) low) (n*n)):=ahg (qy bH (by omega) (by omega)) hXb (by omega) (by omega)
 have hFar:(zI n (exH n L low) low).bd (-37889) 73480:=(jh QQ hOb (by omega) n (Nat.le_refl _)).mono (by omega) (by have:=h.n4;omega)
 have cM:=afv n (QE n (exH n L low) low) h.n1 h.n4 hXl (zC hXb (by omega) (by omega))
 have cD:=ajE (zI n (exH n L low) low) (hFar.mono (by omega) (by omega))
 have cO:=aja n ((QE n (exH n L low) low).map ExV.can) (by rw[List.length_map];omega)
 have c7:=ZN (zI n (exH n L low) low).can
 have hok:(QE n (exH n L low) low).all ExV.fit=true→∀x∈(QE n (exH n L low) low).map ExV.can,x.ok=true:=fun hf x hx=>by
  obtain⟨y,hy,rfl⟩:=List.mem_map.1 hx
  exact adU (List.all_eq_true.1 hf y hy)
 have hfo:(zI n (exH n L low) low).fit=true→(zI n (exH n L low) low).can.ok=true:=fun hf=>adU hf
 unfold mnS
 generalize zI n (exH n L low) low=far at*
 generalize (QE n (exH n L low) low).map ExV.can=XC at*
 generalize QE n (exH n L low) low=X at*
 generalize ((exH n L low).map SpV.can).map (fun s=>(Qm s).can)=M at*
 generalize (exH n L low).map SpV.can=T at*
 generalize far.can=fc at*
 cases hx:X.all ExV.fit
 ·rw[hx]at cM
  rw[Bool.false_and,if_neg (by simp)]
  refine Con.of_w (rs:=[.cell 4 25,.cell 5 44,.tmp 6]) Tryz.func27 rfl Tryz.ntmps27 rfl ?_
  simp(disch:=omega)only[go_sem]
  refine qa (ch) ?_
  simp(disch:=omega)only[go_sem]
  refine qa (cm) ?_
  simp(disch:=omega)only[go_sem]
  refine qa (cr) ?_
  simp(disch:=omega)only[go_sem]
  refine qa (cf) ?_
  simp(disch:=omega)only[go_sem]
  refine qm (cM) ?_
  simp(disch:=omega)only[go_sem]
  exact qn (hp:=by simp(disch:=omega)only[go_sem,qr,List.length_nil,yt])
 ·rw[hx]at cM
  rw[Bool.true_and]
  have cO:=cO (hok hx)
  cases hy:far.fit
  ·rw[hy]at cD
   rw[if_neg (by simp)]
   refine Con.of_w (rs:=[.cell 4 25,.cell 5 44,.tmp 6]) Tryz.func27 rfl Tryz.ntmps27 rfl ?_
   simp(disch:=omega)only[go_sem]
   refine qa (ch) ?_
   simp(disch:=omega)only[go_sem]
   refine qa (cm) ?_
   simp(disch:=omega)only[go_sem]
   refine qa (cr) ?_
   simp(disch:=omega)only[go_sem]
   refine qa (cf) ?_
   simp(disch:=omega)only[go_sem]
   refine qm (cM) ?_
   simp(disch:=omega)only[go_sem]
   refine qm (cD) ?_
   simp(disch:=omega)only[go_sem]
   exact qn (hp:=by simp(disch:=omega)only[go_sem,qr,List.length_nil,yt])
  ·rw[hy]at cD
   rw[if_pos rfl]
   have c7:=c7 (hfo hy)
   refine Con.of_w (rs:=[.cell 4 25,.cell 5 44,.tmp 6]) Tryz.func27 rfl Tryz.ntmps27 rfl ?_
   simp(disch:=omega)only[go_sem]
   refine qa (ch) ?_
   simp(disch:=omega)only[go_sem]
   refine qa (cm) ?_
   simp(disch:=omega)only[go_sem]
   refine qa (cr) ?_
   simp(disch:=omega)only[go_sem]
   refine qa (cf) ?_
   simp(disch:=omega)only[go_sem]
   refine qm (cM) ?_
   simp(disch:=omega)only[go_sem]
   refine qm (cD) ?_
   simp(disch:=omega)only[go_sem]
   refine qq rfl [⟨0,[],[]⟩,⟨2,[0],[]⟩,⟨1,[2],[]⟩,⟨3,[],[]⟩,⟨4,[],[]⟩,⟨5,[],[]⟩,⟨6,[],[]⟩] (by kernel_rfl) ?_
   simp(disch:=omega)only[go_sem]
   refine qa (cO) ?_
   simp(disch:=omega)only[go_sem]
   refine qa (c7) ?_
   simp(disch:=omega)only[go_sem]
   exact qn
theorem Kc(r:AV)(low:Int)(ch:Con Tryz.prog 22 false [r,.v (.int .i64 low)] [] (isA (.tu [.ag [.v (.int .i64 0),.sl 0 []],.v (.bool false)])))(hr:∃(k:Int) (m:Nat) (cs:List AV),r=.ag [.v (.int .i64 k),.sl m cs]):Con Tryz.prog 27 false [r,.v (.int .i64 low)] []
  (isA (.tu [.ag [.v (.int .i64 0),.sl 0 []],.ag [.v (.bool (false)),.sl (lim (0)).length (qg (lim (0))),.v (.int .i64 (0))],.v (.bool false)])):=by
 refine Con.frzA ?_
 obtain⟨k,m,cs,rfl⟩:=hr
 refine Con.of_w (rs:=[.cell 4 25,.cell 5 44,.tmp 6]) Tryz.func27 rfl Tryz.ntmps27 rfl ?_
 simp(disch:=omega)only[go_sem]
 refine qa (ch) ?_
 simp(disch:=omega)only[go_sem]
 exact qn (hp:=by simp(disch:=omega)only[go_sem,qr,List.length_nil,yt])
end Go.Ab
namespace Go.Ab
open Go Go.Proofs
end Go.Ab
namespace Go.Ab
open Go Go.Proofs
def aC6(ok:Bool)(u v:ExV):AV→List Ob→List Ob→Prop:=fun r hs bs=>(lim u.m=[]∧lim v.m=[]∧r=.tu [.ag [.v (.bool u.s),.v (.slice none 0 0),.v (.int .i64 u.e),.v (.bool v.s),.v (.slice none 0 0),.v (.int .i64 v.e)],.v (.bool ok)]∧hs=[])∨(lim u.m=[]∧r=.tu [.ag [.v (.bool u.s),.v (.slice none 0 0),.v (.int .i64 u.e),.v (.bool v.s),.rf 0 0 (lim v.m).length,.v (.int .i64 v.e)],.v (.bool ok)]∧hs=[.own 1 (qg (lim v.m))])∨(lim v.m=[]∧r=.tu [.ag [.v (.bool u.s),.rf 0 0 (lim u.m).length,.v (.int .i64 u.e),.v (.bool v.s),.v (.slice none 0 0),.v (.int .i64 v.e)],.v (.bool ok)]∧hs=[.own 1 (qg (lim u.m))])∨(r=.tu [.ag [.v (.bool u.s),.rf 0 0 (lim u.m).length,.v (.int .i64 u.e),.v (.bool v.s),.rf 1 0 (lim v.m).length,.v (.int .i64 v.e)],.v (.bool ok)]∧hs=[.own 1 (qg (lim u.m)),.own 1 (qg (lim v.m))])
theorem aCm{u v:ExV}:ivO u v=aC6 true u v:=rfl
end Go.Ab
namespace Go.Ab
open Go Go.Proofs
theorem ais{x:ExV}(h:x.fit=true):(lim x.can.m).length≤100:=by
 have hff:(jz (oM x.m)&&(decide (-3000≤oE x.m x.e)&&decide (oE x.m x.e≤3000)))=true:=h
 rw[Bool.and_eq_true]at hff
 have:=hff.1
 unfold jz at this
 simp at this
 exact this
end Go.Ab
namespace Go.Ab
open Go Go.Proofs
theorem YV(k:Int)(l:List DyV)(low:Int)(hl:l.length≤2^40)(hx:∀d∈l,d.xs.length≤2^39)(h:Kn k l=false):Con Tryz.prog 22 false [.ag [.v (.int .i64 k),.sl l.length (qj DyV.cs l)],.v (.int .i64 low)] [] (isA (.tu [.ag [.v (.int .i64 0),.sl 0 []],.v (.bool false)])):=by
 refine Con.frzA ?_
 have cm:Con Tryz.prog 40 false [.ag [.v (.int .i64 k),.sl l.length (qj DyV.cs l)],.v (.int .i64 low)] [] (isA (.v (.bool false))):=by
  refine Con.frzA ?_
  have c:Con Tryz.prog 44 true [.ag [.v (.int .i64 k),.sl l.length (qj DyV.cs l)]] [] (isA (.v (.bool false))):=by
   by_cases h16:l.length≤16
   ·have:=YU k l h16 hx
    rwa[h]at this
   ·refine Con.of_w (rs:=[.tmp 2]) Tryz.func44 rfl Tryz.ntmps44 rfl ?_
    simp(disch:=omega)only[go_sem]
    by_cases c1:k<1
    ·simp(disch:=omega)only[go_sem,c1]
     exact qt
    by_cases c2:4<k
    ·simp(disch:=omega)only[go_sem,c1,c2]
     exact qt
    have hq:0≤k*k∧k*k≤16:=⟨Int.mul_nonneg (by omega) (by omega),Int.mul_le_mul (show k≤4 by omega) (show k≤4 by omega) (by omega) (by omega)⟩
    have c3:¬(l.length:Int)=k*k:=by omega
    simp(disch:=omega)only[go_sem,c1,c2,decide_eq_false c3]
    exact qt
  refine Con.of_w (rs:=[.tmp 4]) Tryz.func40 rfl Tryz.ntmps40 rfl ?_
  simp(disch:=omega)only[go_sem]
  refine qm (c) ?_
  simp(disch:=omega)only[go_sem]
  exact qn
 refine Con.of_w (rs:=[.cell 4 53,.tmp 5]) Tryz.func22 rfl Tryz.ntmps22 rfl ?_
 simp(disch:=omega)only[go_sem]
 refine qa (cm) ?_
 simp(disch:=omega)only[go_sem]
 exact qn
theorem YR(k:Int)(M:List DyV)(low:Int)(h1:M.length≤2^40)(h2:∀d∈M,d.xs.length≤2^40)(h:Kn k M=false):Con Tryz.prog 51 true [.ag [.v (.int .i64 k),.sl M.length (qj DyV.cs M)],.v (.int .i64 low)] [] (isA (.v (.bool false))):=by
 have c:=aaZ k M h1 h2
 rw[h]at c
 refine Con.of_w (rs:=[.tmp 4]) Tryz.func51 rfl Tryz.ntmps51 rfl ?_
 simp(disch:=omega)only[go_sem]
 refine qm (c) ?_
 simp(disch:=omega)only[go_sem]
 exact qt
end Go.Ab
namespace Go.Ab
open Go Go.Proofs
theorem amq{n N:Nat}{X:List ExV}{y:ExV}(hX:X.length=N)(h:(X.all ExV.fit&&y.fit)=true):mnS n X y=.tu [.ag [.v (.int .i64 n),.sl N (qj DyV.cs (gM (exg X y) N))],.ag [.v (.bool (exg X y N).s),.sl (exg X y N).xs.length (qg (exg X y N).xs),.v (.int .i64 (exg X y N).e)],.v (.bool true)]:=by
 subst hX
 have e:exg X y X.length=y.can.dyv:=aiw
 have r:gM (exg X y) X.length=(X.map ExV.can).map ExV.dyv:=by
  unfold gM
  apply List.ext_getElem
  ·simp
  ·intro i h1 h2
   simp only[List.length_map,List.length_range]at h1
   simp[exg,h1,List.getD_eq_getElem?_getD,List.getElem?_eq_getElem h1]
 unfold mnS
 rw[if_pos h,e,r,JS,List.length_map];rfl
theorem ahy{n:Nat}{X:List ExV}{y:ExV}(h:(X.all ExV.fit&&y.fit)=false):mnS n X y=.tu [.ag [.v (.int .i64 0),.sl 0 []],.ag [.v (.bool false),.sl 0 [],.v (.int .i64 0)],.v (.bool false)]:=by
 unfold mnS
 rw[h,if_neg (by simp),qr];rfl
theorem asS{X:List ExV}{y:ExV}(h:(X.all ExV.fit&&y.fit)=true)(j:Nat):(exg X y j).xs.length≤1000:=by
 rw[Bool.and_eq_true]at h
 unfold exg
 split
 ·rename_i hj
  have hm:X.getD j ex0∈X:=by rw[List.getD_eq_getElem?_getD,List.getElem?_eq_getElem hj];exact List.getElem_mem _
  exact Nat.le_trans (ais (List.all_eq_true.1 h.1 _ hm)) (by omega)
 ·exact Nat.le_trans (ais h.2) (by omega)
theorem ZQ(r:AV)(low:Int)(ca:Con Tryz.prog 51 true [r,.v (.int .i64 low)] [] (isA (.v (.bool false))))(hr:∃(k:Int) (m:Nat) (cs:List AV),r=.ag [.v (.int .i64 k),.sl m cs]):Con Tryz.prog 28 true [r,.v (.int .i64 low)] [] mnZ:=by
 obtain⟨k,m,cs,rfl⟩:=hr
 refine Con.of_aw Tryz.func28 rfl Tryz.ntmps28 (by simp) (by simp) (by simp) (W.sound ?_)
 show @W Tryz.prog 81 ⟨_⟩ ⟨fun x σ=>@qY _ _ _ ⟨_⟩ _ ⟨_⟩ x σ⟩ _ _
 simp(disch:=omega)only[go_sem]
 refine qm (ca) ?_
 simp(disch:=omega)only[go_sem]
 refine ql [] [] [] [.ag [.v (.int .i64 0),.v (.slice none 0 0)],.ag [.v (.bool false),.v (.slice none 0 0),.v (.int .i64 0)],.v (.bool false)] rfl (by simp(disch:=omega)only[go_sem]) (by simp(disch:=omega)only[go_sem]) (by simp) (by intro _;simp[zr,AV.pu,AV.pu.puL,Ob.pu,qV]) ⟨rfl,rfl⟩
theorem Q9(r:AV)(low:Int)(ch:Con Tryz.prog 22 false [r,.v (.int .i64 low)] [] (isA (.tu [.ag [.v (.int .i64 0),.sl 0 []],.v (.bool false)])))(hr:∃(k:Int) (m:Nat) (cs:List AV),r=.ag [.v (.int .i64 k),.sl m cs]):Con Tryz.prog 27 false [r,.v (.int .i64 low)] []
  (isA (.tu [.ag [.v (.int .i64 0),.sl 0 []],.ag [.v (.bool false),.sl 0 [],.v (.int .i64 0)],.v (.bool false)])):=by
 have:=Kc r low ch hr
 rw[qr]at this
 exact this
theorem aeJ(k:Int)(l:List DyV)(low:Int)(hl:l.length≤9223372036854775807)(hx:∀x∈l,x.xs.length≤9223372036854775807):Con Tryz.prog 6 true [.ag [.v (.int .i64 k),.sl l.length (qj DyV.cs l)],.v (.int .i64 low)] [] (isA (.v (.bool true))):=by
 by_cases hsz:l.length+smF (fun j=>l.getD j dy0) l.length≤1048576
 ·have hxs:=abG hsz
  cases hm:Kn k l
  ·exact y7 k l low hl hx (Q9 _ low (YV k l low (by omega) (fun d hd=>Nat.le_trans (hxs d hd) (by omega)) hm) ⟨_,_,_,rfl⟩)
    (ZQ _ low (YR k l low (by omega) (fun d hd=>Nat.le_trans (hxs d hd) (by omega)) hm) ⟨_,_,_,rfl⟩)
  ·obtain⟨n,L,rfl,rfl,hV⟩:=avZ hm
   have er:(AV.sl (L.map ExV.dyv).length (qj DyV.cs (L.map ExV.dyv)))=.sl L.length (qj ExV.cs L):=by rw[List.length_map,JS]
   have ca:=aaP n L low hV
   cases ha:afO n L low
   ·have cs:=Q9 _ low (Xe n L low hV ha) ⟨_,_,_,rfl⟩
    rw[ha]at ca
    have ci:=ZQ _ low ca ⟨_,_,_,rfl⟩
    rw[←er]at cs ci
    exact y7 n (L.map ExV.dyv) low hl hx cs ci
   ·have f:=QM hV ha
    have hlo:=f.lo
    rw[ha]at ca
    have cs:=acD n L low hV ha
    have hH:(exH n L low).length=n*n:=yI
    have ci:=aa1 n L low (exH n L low) hV.n4 hV.len (by omega) ca (afl n L low hV ha) hH (qy (apj hV f) (by omega) (by omega)) (aiC hV f)
    have hXl:(QE n (exH n L low) low).length=n*n:=by unfold QE akp;exact jw
    have hq:=jr hV.n4
    rw[←er]at cs ci
    cases hc:((QE n (exH n L low) low).all ExV.fit&&(zI n (exH n L low) low).fit)
    ·rw[hc,if_neg (by simp)]at ci
     rw[ahy hc]at cs
     exact y7 n (L.map ExV.dyv) low hl hx cs ci
    ·rw[hc,if_pos rfl]at ci
     rw[amq hXl hc]at cs
     exact VF n (L.map ExV.dyv) low hl hx n (n*n) _ hq (fun j _=>asS hc j) cs ci
 ·have cz:=Jg k l 1048576 hl hx (by omega)
  refine Con.of_w (rs:=[.tmp 4]) Tryz.func6 rfl Tryz.ntmps6 rfl ?_
  simp(disch:=omega)only[go_sem]
  refine qs cz (by simp(disch:=omega)only[go_sem]) ?_
  rintro r hs ⟨v,rfl,rfl, -,hv⟩
  refine⟨by simp[qB],?_⟩
  obtain rfl:v= -1:=by
   rcases hv with h|h
   ·exact h
   ·exact absurd h.2 hsz
  simp(disch:=omega)only[go_sem]
  exact qt
end Go.Ab
namespace Go.Proofs.YtodjjilpibnbeaaGreatDoor
open Go.ChangeShapes Go.WideShapes Go.ChangeAt Go.RowKit Go.Ab
theorem own:ownKnob Tryz.prog.godebug=none:=by kernel_rfl
theorem ahR:laidOutB Tryz.prog=true:=by kernel_rfl
theorem agp:Tryz.prog.globalNamed "math/bits.deBruijn64tab" =some 1:=by kernel_rfl
theorem aqe:(Tryz.prog.globals[1]?).map (·.type)=some 316:=by kernel_rfl
theorem aqd:Tryz.prog.underlying 316=some (.array 64 5):=by kernel_rfl
theorem aqh:Tryz.prog.underlying 5=some (.int .u8):=by kernel_rfl
theorem aqi:Tryz.prog.cellsOf 5=1:=by kernel_rfl
theorem aqf:Tryz.prog.cellsOf 316=64:=by kernel_rfl
noncomputable def QW:List (String×DataW Unit):=[("math/bits.deBruijn32tab",Rows.laid_math_bits_deBruijn32tab),("math/bits.deBruijn64tab",Rows.laid_math_bits_deBruijn64tab)]
theorem aqg{W:World}(h:laidMetH Tryz.prog QW W):Gd W:=by
 have h':laidMet Tryz.prog QW W:=h
 have h2:laidMet Tryz.prog [("math/bits.deBruijn64tab",Lib.tabData .u8 (Lib.deBruijn64tab.map Int.ofNat))] W:=laidMet.tail h'
 have hT:=Lib.tabIs_of_head agp aqe aqd aqh aqi aqf h2
 intro g l hg
 unfold glb at hg
 split at hg
 ·rename_i e
  subst e
  cases hg
  have hc:∀i,i<Lib.deBruijn64tab.length→W.cell? ⟨1,i,none⟩=some (.int .u8 ((Lib.deBruijn64tab.getD i 0:Nat):Int)):=fun i hi=>by
   have:=hT.cell agp i (by simpa using hi)
   rw[this]
   simp[List.getD,hi]
  exact⟨Kh (hc 0 (by decide)),hc⟩
 ·cases hg
noncomputable def K7(os:Os):World:=
 let w0:=World.holding Tryz.prog os ⟨#[],#[],[]⟩
 {w0 with heap:=(w0.heap.modify 1 fun
   | .cells _ t frozen=>.cells (Lib.deBruijn64tab.map fun z=>Value.int .u8 (Int.ofNat z)).toArray t frozen
   |o=>o).modify 0 fun
   | .cells _ t frozen=>.cells (Lib.deBruijn32tab.map fun z=>Value.int .u8 (Int.ofNat z)).toArray t frozen
   |o=>o}
theorem VG(os:Os)(args:Array Value):laidMetH Tryz.prog QW ((K7 os).forCall (fun _ _=>0) ⟨#[],args,[]⟩).memory:=
 laidMetH_of_parts (laidMet_of_run' 8 (by kernel_rfl) (by kernel_rfl)) (by kernel_rfl)
end Go.Proofs.YtodjjilpibnbeaaGreatDoor
