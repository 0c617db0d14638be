/- What the proof of this claim stands on: the walks of the functions and the plain laws, part 5. -/
import Derived.Test.YtgkehjnacdccfaaGreatDoorFnRootsLib4
set_option linter.unusedVariables false
set_option linter.unusedSimpArgs false
namespace Go.Ab
open Go Go.Proofs
def ExV.can(x:ExV):ExV:=⟨oS x.s x.m,oM x.m,oE x.m x.e⟩
def ExV.fit(x:ExV):Bool:=yb x.m x.e
def SpV.can(s:SpV):SpV:=⟨s.lo.can,s.hi.can⟩
def SpV.fit(s:SpV):Bool:=s.lo.fit&&s.hi.fit
theorem Jy(x:ExV)(hx:x.bd (-400000) 400000):Con Tryz.prog 92 false [.ag [.v (.bool (x).s),.sl (lim (x).m).length (qc (lim (x).m)),.v (.int .i64 (x).e)]] [] (isA (if x.fit=true then .tu [.ag [.v (.bool (x.can).s),.sl (lim (x.can).m).length (qc (lim (x.can).m)),.v (.int .i64 (x.can).e)],.v (.bool true)]else .tu [.ag [.v (.bool (false)),.sl (lim (0)).length (qc (lim (0))),.v (.int .i64 (0))],.v (.bool false)])):=by
 obtain⟨a1,a2,a3⟩:=hx
 exact aQN x.s x.m x.e (by omega) (by omega)
set_option maxRecDepth 100000 in
theorem atE(l:List ExV)(hl:l.length≤1000)(hb:gbd (-400000) 400000 l):Con Tryz.prog 169 false [.sl l.length (ql ExV.cs l)] []
  (isA (if l.all ExV.fit=true then .tu [.sl l.length (ql ExV.cs (l.map ExV.can)),.v (.bool true)]else .tu [.sl 0 [],.v (.bool false)])):=by
 refine Con.frzA ?_
 refine Con.of_aw Tryz.func169 rfl Tryz.ntmps169 (by simp) (by simp) (by simp) (W.sound ?_)
 show @W Tryz.prog 28 ⟨_⟩ ⟨fun x σ=>@q9 _ _ _ ⟨_⟩ _ ⟨_⟩ x σ⟩ _ _
 simp(disch:=omega)only[go_sem]
 refine qh (fun i:Nat=>[(2,.v (.slice none 0 0)),(3,.v (.bool false)),(4,.rf 1 0 i),(9,.sl l.length (ql ExV.cs l)),(10,.v (.int .i64 l.length)),(11,.v (.int .i64 i))])
  (fun i=>[(1,.own 3 (ql ExV.cs (mpT l ExV.can i)))]) (fun i=>i≤l.length∧∀x∈l.take i,x.fit=true) (fun i=>l.length-i) 0 ⟨by omega,by simp⟩
  ((Le.ghost 4 1 3 (by simp(disch:=omega)only[go_sem]) (by simp(disch:=omega)only[go_sem])).trans (Le.lst [] _ _ rfl (by simp(disch:=omega)only[go_sem]) (by simp(disch:=omega)only[go_sem,jZ,j9]))) ?_
 rintro i ⟨hi,hf⟩
 simp(disch:=omega)only[go_sem]
 refine qe (fun h1=>?_) (fun h1=>?_)
 ·have hi2:i<l.length:=by omega
  have hci:=zU hi2
  have hcut:=zn (zQ (F:=ExV.can) hi)
  have hml:=zQ (F:=ExV.can) hi
  have hs:=j0 (F:=ExV.can) ex0 hi2
  have hx:=qJ hb hi2
  have hmem:l.getD i ex0∈l:=by rw[List.getD_eq_getElem?_getD,List.getElem?_eq_getElem hi2];exact List.getElem_mem _
  have htk:l.take (i+1)=l.take i++[l.getD i ex0]:=by
   rw[List.take_add_one,List.getElem?_eq_getElem hi2,List.getD_eq_getElem?_getD,List.getElem?_eq_getElem hi2];rfl
  generalize l.getD i ex0=x at*
  have cd:=Jy x hx
  simp(disch:=omega)only[go_sem,h1,hci]
  refine⟨by omega,by omega,?_⟩
  cases hft:x.fit
  ·have hall:l.all ExV.fit=false:=by rw[List.all_eq_false];exact⟨x,hmem,by rw[hft];simp⟩
   rw[hft,if_neg (by simp)]at cd
   rw[hall,if_neg (by simp)]
   refine qa (cd) ?_
   simp(disch:=omega)only[go_sem]
   exact qj
  ·rw[hft,if_pos rfl]at cd
   refine qa (cd) ?_
   simp(disch:=omega)only[go_sem]
   simp(disch:=omega)only[go_sem,hcut,j8]
   refine⟨⟨by rw[hml];exact Nat.le_refl _,by omega⟩,qb (i+1) [(1,270000000)] ⟨by show i+1≤_;omega,fun y hy=>?_⟩ (by show l.length-(i+1)<l.length-i;omega) rfl (by simp(disch:=omega)only[go_sem];try omega) (by simp(disch:=omega)only[go_sem,hs])⟩
   rw[htk]at hy
   rcases List.mem_append.1 hy with h|h
   ·exact hf y h
   ·rw[List.mem_singleton.1 h];exact hft
 ·simp(disch:=omega)only[go_sem,h1]
  obtain rfl:i=l.length:=by omega
  rw[List.take_length]at hf
  have hall:l.all ExV.fit=true:=List.all_eq_true.2 hf
  rw[hall,if_pos rfl]
  refine qi [(0,1)] [.own 3 (ql ExV.cs (mpT l ExV.can l.length))] [] [.rf 0 0 l.length,.v (.bool true)] rfl (by simp(disch:=omega)only[go_sem]) (by simp(disch:=omega)only[go_sem]) (by simp) (by simp) ?_
  show qG _ 6 _=_
  simp(disch:=omega)only[go_sem,YC,q6,y7,zn (l:=l.map ExV.can) (k:=l.length) (List.length_map ..)]
theorem afu(n:Nat)(l:List ExV)(hl:l.length≤1000)(hb:gbd (-400000) 400000 l):Con Tryz.prog 77 false [.ag [.v (.int .i64 (n)),.sl (l).length (ql ExV.cs (l))]] []
  (isA (if l.all ExV.fit=true then .tu [.ag [.v (.int .i64 n),.sl l.length (ql ExV.cs (l.map ExV.can))],.v (.bool true)]else .tu [.ag [.v (.int .i64 0),.sl 0 []],.v (.bool false)])):=by
 refine Con.frzA ?_
 have cd:=atE l hl hb
 generalize l.map ExV.can=L at*
 cases hf:l.all ExV.fit
 ·rw[hf,if_neg (by simp)]at cd
  rw[if_neg (by simp)]
  refine Con.of_w (rs:=[.cell 2 25,.tmp 3]) Tryz.func77 rfl Tryz.ntmps77 rfl ?_
  simp(disch:=omega)only[go_sem]
  refine qa (cd) ?_
  simp(disch:=omega)only[go_sem]
  exact qj
 ·rw[hf,if_pos rfl]at cd
  rw[if_pos rfl]
  refine Con.of_w (rs:=[.cell 2 25,.tmp 3]) Tryz.func77 rfl Tryz.ntmps77 rfl ?_
  simp(disch:=omega)only[go_sem]
  refine qa (cd) ?_
  simp(disch:=omega)only[go_sem]
  exact qj
theorem yX(n:Nat)(l:List ExV)(x:ExV)(hl:l.length≤1000)(hb:gbd (-400000) 400000 l)(hx:x.bd (-400000) 400000):Con Tryz.prog 104 false [.ag [.v (.int .i64 (n)),.sl (l).length (ql ExV.cs (l))],.ag [.v (.bool (x).s),.sl (lim (x).m).length (qc (lim (x).m)),.v (.int .i64 (x).e)]] []
  (isA (if(l.all ExV.fit&&x.fit)=true then .tu [.ag [.v (.int .i64 n),.sl l.length (ql ExV.cs (l.map ExV.can))],.ag [.v (.bool (x.can).s),.sl (lim (x.can).m).length (qc (lim (x.can).m)),.v (.int .i64 (x.can).e)],.v (.bool true)]else .tu [.ag [.v (.int .i64 0),.sl 0 []],.ag [.v (.bool (false)),.sl (lim (0)).length (qc (lim (0))),.v (.int .i64 (0))],.v (.bool false)])):=by
 refine Con.frzA ?_
 have cd:=afu n l hl hb
 have cx:=Jy x hx
 generalize l.map ExV.can=L at*
 cases hf:l.all ExV.fit<;>cases hg:x.fit
 ·rw[hf,if_neg (by simp)]at cd
  rw[hg,if_neg (by simp)]at cx
  rw[if_neg (by simp)]
  refine Con.of_w (rs:=[.cell 4 25,.cell 5 42,.tmp 6]) Tryz.func104 rfl Tryz.ntmps104 rfl ?_
  simp(disch:=omega)only[go_sem]
  refine qa (cd) ?_
  simp(disch:=omega)only[go_sem]
  refine qa (cx) ?_
  simp(disch:=omega)only[go_sem]
  exact qj (hp:=by simp(disch:=omega)only[go_sem,qo,List.length_nil,ji])
 ·rw[hf,if_neg (by simp)]at cd
  rw[hg,if_pos rfl]at cx
  rw[if_neg (by simp)]
  refine Con.of_w (rs:=[.cell 4 25,.cell 5 42,.tmp 6]) Tryz.func104 rfl Tryz.ntmps104 rfl ?_
  simp(disch:=omega)only[go_sem]
  refine qa (cd) ?_
  simp(disch:=omega)only[go_sem]
  refine qa (cx) ?_
  simp(disch:=omega)only[go_sem]
  exact qj (hp:=by simp(disch:=omega)only[go_sem,qo,List.length_nil,ji])
 ·rw[hf,if_pos rfl]at cd
  rw[hg,if_neg (by simp)]at cx
  rw[if_neg (by simp)]
  refine Con.of_w (rs:=[.cell 4 25,.cell 5 42,.tmp 6]) Tryz.func104 rfl Tryz.ntmps104 rfl ?_
  simp(disch:=omega)only[go_sem]
  refine qa (cd) ?_
  simp(disch:=omega)only[go_sem]
  refine qa (cx) ?_
  simp(disch:=omega)only[go_sem]
  exact qj (hp:=by simp(disch:=omega)only[go_sem,qo,List.length_nil,ji])
 ·rw[hf,if_pos rfl]at cd
  rw[hg,if_pos rfl]at cx
  rw[if_pos (by rfl)]
  refine Con.of_w (rs:=[.cell 4 25,.cell 5 42,.tmp 6]) Tryz.func104 rfl Tryz.ntmps104 rfl ?_
  simp(disch:=omega)only[go_sem]
  refine qa (cd) ?_
  simp(disch:=omega)only[go_sem]
  refine qa (cx) ?_
  simp(disch:=omega)only[go_sem]
  refine qs rfl [⟨0,[],[]⟩,⟨1,[0],[]⟩,⟨2,[1],[]⟩,⟨3,[],[]⟩,⟨4,[],[]⟩] (by kernel_rfl) ?_
  simp(disch:=omega)only[go_sem]
  exact qj
theorem as7(s:SpV)(hs:s.bd (-400000) 400000):Con Tryz.prog 140 false [.ag [.v (.bool (s).lo.s),.sl (lim (s).lo.m).length (qc (lim (s).lo.m)),.v (.int .i64 (s).lo.e),.v (.bool (s).hi.s),.sl (lim (s).hi.m).length (qc (lim (s).hi.m)),.v (.int .i64 (s).hi.e)]] []
  (isA (if s.fit=true then .tu [.ag [.v (.bool (s.can).lo.s),.sl (lim (s.can).lo.m).length (qc (lim (s.can).lo.m)),.v (.int .i64 (s.can).lo.e),.v (.bool (s.can).hi.s),.sl (lim (s.can).hi.m).length (qc (lim (s.can).hi.m)),.v (.int .i64 (s.can).hi.e)],.v (.bool true)]else .tu [.ag [.v (.bool (sp0).lo.s),.sl (lim (sp0).lo.m).length (qc (lim (sp0).lo.m)),.v (.int .i64 (sp0).lo.e),.v (.bool (sp0).hi.s),.sl (lim (sp0).hi.m).length (qc (lim (sp0).hi.m)),.v (.int .i64 (sp0).hi.e)],.v (.bool false)])):=by
 refine Con.frzA ?_
 have c1:=Jy s.lo hs.1
 have c2:=Jy s.hi hs.2
 unfold SpV.fit
 cases h1:s.lo.fit<;>cases h2:s.hi.fit
 ·rw[h1,if_neg (by simp)]at c1
  rw[h2,if_neg (by simp)]at c2
  rw[if_neg (by simp)]
  refine Con.of_w (rs:=[.cell 2 90,.tmp 3]) Tryz.func140 rfl Tryz.ntmps140 rfl ?_
  simp(disch:=omega)only[go_sem]
  refine qa (c1) ?_
  simp(disch:=omega)only[go_sem]
  refine qa (c2) ?_
  simp(disch:=omega)only[go_sem]
  exact qj (hp:=by simp(disch:=omega)only[go_sem,sp0,ex0,qo,List.length_nil,ji])
 ·rw[h1,if_neg (by simp)]at c1
  rw[h2,if_pos rfl]at c2
  rw[if_neg (by simp)]
  refine Con.of_w (rs:=[.cell 2 90,.tmp 3]) Tryz.func140 rfl Tryz.ntmps140 rfl ?_
  simp(disch:=omega)only[go_sem]
  refine qa (c1) ?_
  simp(disch:=omega)only[go_sem]
  refine qa (c2) ?_
  simp(disch:=omega)only[go_sem]
  exact qj (hp:=by simp(disch:=omega)only[go_sem,sp0,ex0,qo,List.length_nil,ji])
 ·rw[h1,if_pos rfl]at c1
  rw[h2,if_neg (by simp)]at c2
  rw[if_neg (by simp)]
  refine Con.of_w (rs:=[.cell 2 90,.tmp 3]) Tryz.func140 rfl Tryz.ntmps140 rfl ?_
  simp(disch:=omega)only[go_sem]
  refine qa (c1) ?_
  simp(disch:=omega)only[go_sem]
  refine qa (c2) ?_
  simp(disch:=omega)only[go_sem]
  exact qj (hp:=by simp(disch:=omega)only[go_sem,sp0,ex0,qo,List.length_nil,ji])
 ·rw[h1,if_pos rfl]at c1
  rw[h2,if_pos rfl]at c2
  rw[if_pos (by rfl)]
  refine Con.of_w (rs:=[.cell 2 90,.tmp 3]) Tryz.func140 rfl Tryz.ntmps140 rfl ?_
  simp(disch:=omega)only[go_sem]
  refine qa (c1) ?_
  simp(disch:=omega)only[go_sem]
  refine qa (c2) ?_
  simp(disch:=omega)only[go_sem]
  exact qj (hp:=by simp(disch:=omega)only[go_sem,SpV.can])
set_option maxRecDepth 100000 in
theorem atx(n:Nat)(l:List SpV)(hl:l.length≤1000)(hb:sbd (-400000) 400000 l):Con Tryz.prog 72 false [.ag [.v (.int .i64 (n)),.sl (l).length (ql SpV.cs (l))]] []
  (isA (if l.all SpV.fit=true then .tu [.ag [.v (.int .i64 n),.sl l.length (ql SpV.cs (l.map SpV.can))],.v (.bool true)]else .tu [.ag [.v (.int .i64 0),.sl 0 []],.v (.bool false)])):=by
 refine Con.frzA ?_
 refine Con.of_aw Tryz.func72 rfl Tryz.ntmps72 (by simp) (by simp) (by simp) (W.sound ?_)
 show @W Tryz.prog 35 ⟨_⟩ ⟨fun x σ=>@q9 _ _ _ ⟨_⟩ _ ⟨_⟩ x σ⟩ _ _
 simp(disch:=omega)only[go_sem]
 refine qh (fun i:Nat=>[(2,.pt 2 0),(3,.v (.bool false)),(4,.pt 0 0),(13,.sl l.length (ql SpV.cs l)),(14,.v (.int .i64 l.length)),(15,.v (.int .i64 i))])
  (fun i=>[(0,.own 0 [.v (.int .i64 n),.rf 1 0 i]),(1,.own 6 (ql SpV.cs (mpT l SpV.can i))),(2,.own 0 [.v (.int .i64 0),.v (.slice none 0 0)])]) (fun i=>i≤l.length∧∀x∈l.take i,x.fit=true) (fun i=>l.length-i) 0 ⟨by omega,by simp⟩
  ((Le.ghostC 60000000 1 1 6 (zo:=0) (cs:=[.v (.int .i64 n),.v (.slice none 0 0)]) (by simp(disch:=omega)only[go_sem]) rfl (by simp(disch:=omega)only[go_sem])).trans (Le.lst [(0,60000000),(2,40000000)] _ _ rfl (by simp(disch:=omega)only[go_sem]) (by simp(disch:=omega)only[go_sem,jZ,ZN,List.set_cons_succ,List.set_cons_zero]))) ?_
 rintro i ⟨hi,hf⟩
 simp(disch:=omega)only[go_sem]
 refine qe (fun h1=>?_) (fun h1=>?_)
 ·have hi2:i<l.length:=by omega
  have hci:=y0 hi2
  have hcut:=z7 (zQ (F:=SpV.can) hi)
  have hml:=zQ (F:=SpV.can) hi
  have hs:=j0 (F:=SpV.can) sp0 hi2
  have hx:=jA hb hi2
  have hmem:l.getD i sp0∈l:=by rw[List.getD_eq_getElem?_getD,List.getElem?_eq_getElem hi2];exact List.getElem_mem _
  have htk:l.take (i+1)=l.take i++[l.getD i sp0]:=by
   rw[List.take_add_one,List.getElem?_eq_getElem hi2,List.getD_eq_getElem?_getD,List.getElem?_eq_getElem hi2];rfl
  generalize l.getD i sp0=x at*
  have cd:=as7 x hx
  simp(disch:=omega)only[go_sem,h1,hci]
  refine⟨by omega,by omega,?_⟩
  cases hft:x.fit
  ·have hall:l.all SpV.fit=false:=by rw[List.all_eq_false];exact⟨x,hmem,by rw[hft];simp⟩
   rw[hft,if_neg (by simp)]at cd
   rw[hall,if_neg (by simp)]
   refine qa (cd) ?_
   simp(disch:=omega)only[go_sem]
   exact qj
  ·rw[hft,if_pos rfl]at cd
   refine qa (cd) ?_
   simp(disch:=omega)only[go_sem]
   simp(disch:=omega)only[go_sem,hcut,Qj]
   refine⟨⟨by rw[hml];exact Nat.le_refl _,by omega⟩,qb (i+1) [(1,330000000)] ⟨by show i+1≤_;omega,fun y hy=>?_⟩ (by show l.length-(i+1)<l.length-i;omega) rfl (by simp(disch:=omega)only[go_sem];try omega) (by simp(disch:=omega)only[go_sem,hs])⟩
   rw[htk]at hy
   rcases List.mem_append.1 hy with h|h
   ·exact hf y h
   ·rw[List.mem_singleton.1 h];exact hft
 ·simp(disch:=omega)only[go_sem,h1]
  obtain rfl:i=l.length:=by omega
  rw[List.take_length]at hf
  have hall:l.all SpV.fit=true:=List.all_eq_true.2 hf
  rw[hall,if_pos rfl]
  refine qi [(0,1)] [.own 6 (ql SpV.cs (mpT l SpV.can l.length))] [] [.ag [.v (.int .i64 n),.rf 0 0 l.length],.v (.bool true)] rfl (by simp(disch:=omega)only[go_sem]) (by simp(disch:=omega)only[go_sem]) (by simp) (by simp) ?_
  show qG _ 6 _=_
  simp(disch:=omega)only[go_sem,YC,q6,y7,z7 (l:=l.map SpV.can) (k:=l.length) (List.length_map ..)]
end Go.Ab
namespace Go.Ab
open Go Go.Proofs
def fct:Nat→Nat
 |0=>1
 |n+1=>(n+1)*fct n
theorem asN:∀n,n≤500→bl (fct n)≤9*n+1
 |0,_=>by decide
 |n+1,h=>by
  have h1:=asN n (by omega)
  have h2:=QJ (n+1) (fct n)
  have h3:bl (n+1)≤9:=zB.2 (by omega)
  show bl ((n+1)*fct n)≤_
  omega
theorem asM:∀n,0<fct n
 |0=>by decide
 |n+1=>Nat.mul_pos (by omega) (asM n)
theorem aHr(n:Nat)(hn:n≤402):Con Tryz.prog 249 false [.v (.int .i64 n)] [] (isA (.sl (lim (fct n)).length (qc (lim (fct n))))):=by
 refine Con.frzA ?_
 refine Con.of_w (rs:=[.tmp 2]) Tryz.func249 rfl Tryz.ntmps249 rfl ?_
 simp(disch:=omega)only[go_sem]
 refine qa (zp 1 (by omega)) ?_
 simp(disch:=omega)only[go_sem]
 by_cases h1:n≤1
 ·have e1:fct n=1:=by
   rcases(by omega:n=0∨n=1)with rfl|rfl<;>rfl
  rw[e1]
  refine qh (fun _:Nat=>[(0,.v (.int .i64 n)),(2,.v (.slice none 0 0)),(3,.sl (lim (1)).length (qc (lim (1)))),(4,.v (.int .i64 2))]) (fun _=>[]) (fun _=>True) (fun _=>0) 0 trivial (Le.lst [] _ _ rfl (by simp(disch:=omega)only[go_sem]) (by simp(disch:=omega)only[go_sem])) ?_
  intro _ _
  simp(disch:=omega)only[go_sem]
  have q:decide ((2:Int)≤(n:Int))=false:=decide_eq_false (by omega)
  simp(disch:=omega)only[go_sem,q]
  exact qj
 ·refine qh (fun k:Nat=>[(0,.v (.int .i64 n)),(2,.v (.slice none 0 0)),(3,.sl (lim (fct k)).length (qc (lim (fct k)))),(4,.v (.int .i64 ((k:Int)+1)))]) (fun _=>[]) (fun k=>1≤k∧k≤n) (fun k=>n-k) 1 (by omega) (Le.lst [] _ _ rfl (by simp(disch:=omega)only[go_sem,show fct 1=1 from rfl,show((1:Nat):Int)+1=2 from rfl];try rfl) (by simp(disch:=omega)only[go_sem])) ?_
  rintro k ⟨hk1,hk⟩
  simp(disch:=omega)only[go_sem]
  refine qe (fun h2=>?_) (fun h2=>?_)
  ·simp(disch:=omega)only[go_sem,h2]
   have e1:(k:Int)+1=((k+1:Nat):Int):=by omega
   have l1:=qC (asN k (by omega))
   have l2:=qC (m:=k+1) (B:=9) (zB.2 (by omega))
   have cs:=zp (k+1) (by omega)
   rw[←e1]at cs
   refine qa (cs) ?_
   simp(disch:=omega)only[go_sem]
   refine qa (Yf (fct k) (k+1) (by omega) (by omega)) ?_
   simp(disch:=omega)only[go_sem]
   have e2:fct k*(k+1)=fct (k+1):=Nat.mul_comm _ _
   exact qb (k+1) [] ⟨by omega,by omega⟩ (by show n-(k+1)<n-k;omega) rfl (by simp(disch:=omega)only[go_sem,e2];try omega) (by simp(disch:=omega)only[go_sem])
  ·simp(disch:=omega)only[go_sem,h2]
   obtain rfl:n=k:=by omega
   exact qj
def tmS(W:Nat):Nat→Nat→Nat
 |_,0=>0
 |k,f+1=>if fct (k+1)*2^k<2^W then tmS W (k+1) f else k
def tmF(W:Nat):Nat:=tmS W 1 402
theorem as5(B:Nat)(hW:B≤400):Con Tryz.prog 162 true [.v (.int .i64 (-(B:Int)))] [] (isA (.v (.int .i64 (tmF B)))):=by
 refine Con.of_w (rs:=[.tmp 2]) Tryz.func162 rfl Tryz.ntmps162 rfl ?_
 simp(disch:=omega)only[go_sem]
 refine qh (fun k:Nat=>[(0,.v (.int .i64 (-(B:Int)))),(2,.v (.int .i64 0)),(3,.v (.int .i64 k))]) (fun _=>[]) (fun k=>1≤k∧k≤401∧tmS B k (403-k)=tmF B) (fun k=>402-k) 1 ⟨by omega,by omega,rfl⟩ (Le.lst [] _ _ rfl (by simp(disch:=omega)only[go_sem]) (by simp(disch:=omega)only[go_sem])) ?_
 rintro k ⟨hk1,hk2,ht⟩
 have e1:(k:Int)+1=((k+1:Nat):Int):=by omega
 have e2:0-(-(B:Int))=(B:Int):=by omega
 have cf:=aHr (k+1) (by omega)
 rw[←e1]at cf
 have b1:=asN (k+1) (by omega)
 have l1:=qC b1
 have b2:=JV (fct (k+1)) k
 have l2:=qC (m:=fct (k+1)*2^k) (B:=5000) (by omega)
 have b3:=JV 1 B
 have b4:bl 1≤1:=zB.2 (by decide)
 have l3:=qC (m:=1*2^B) (B:=500) (by omega)
 have l4:=qC b4
 have cu:=zV 1 B (by omega) (by omega)
 rw[←e2]at cu
 have cc:=zZ (fct (k+1)*2^k) (1*2^B) (by omega) (by omega)
 have hstep:tmS B k (403-k)=if fct (k+1)*2^k<2^B then tmS B (k+1) (403-(k+1))else k:=by
  rw[show 403-k=(403-(k+1))+1 by omega];rfl
 have hbig:fct (k+1)*2^k<2^B→k<B:=fun h=>by
  rcases Nat.lt_or_ge k B with h'|h'
  ·exact h'
  ·have g1:2^B≤2^k:=Nat.pow_le_pow_right (by omega) h'
   have g2:1*2^k≤fct (k+1)*2^k:=Nat.mul_le_mul_right _ (asM _)
   omega
 have hcl:=(atL ((fct (k+1)*2^k:Nat):Int) ((1*2^B:Nat):Int)).2.1
 generalize zH ((fct (k+1)*2^k:Nat):Int) ((1*2^B:Nat):Int)=C at*
 generalize fct (k+1)=FF at*
 simp(disch:=omega)only[go_sem]
 refine qa (cf) ?_
 simp(disch:=omega)only[go_sem]
 refine qa (zV FF k (by omega) (by omega)) ?_
 simp(disch:=omega)only[go_sem]
 refine qa (zp 1 (by omega)) ?_
 simp(disch:=omega)only[go_sem]
 refine qa (cu) ?_
 simp(disch:=omega)only[go_sem]
 refine qn (cc) ?_
 simp(disch:=omega)only[go_sem]
 refine qe (fun h1=>?_) (fun h1=>?_)
 ·simp(disch:=omega)only[go_sem,h1]
  have hlt:FF*2^k<2^B:=by have:=hcl.1 h1;omega
  have:=hbig hlt
  rw[if_pos hlt,ht]at hstep
  exact qb (k+1) [] ⟨by omega,by omega,hstep.symm⟩ (by show 402-(k+1)<402-k;omega) rfl (by simp(disch:=omega)only[go_sem];try omega) (by simp(disch:=omega)only[go_sem])
 ·simp(disch:=omega)only[go_sem,h1]
  have hlt:¬FF*2^k<2^B:=fun h=>h1 (hcl.2 (by omega))
  rw[if_neg hlt,ht]at hstep
  rw[hstep]
  exact qy
end Go.Ab
namespace Go.Ab
open Go
section
variable {P:Program}
theorem ZC{L:Nat→Option Blk→Prop}{w0:World}{R0:Nat→Prop}{N:Nat}{ops:Array Oper}{K:St→Prop}{Q':Exit→Act→World→Prop}{rest:List Nat}(hQ:∀σ a w,In L w0 R0 N σ a w→K σ→wpOps P ops Q' rest a w):
  ∀(r:List Oper) (k:Nat),(∀j,j<r.length→ops[k+j]? =r[j]?)→∀{e h a w},In L w0 R0 N ⟨e,h⟩ a w→ChF P N ops.toList K r e h→wpOps P ops Q' (List.range' k r.length++rest) a w
 | [],k,hk,e,h,a,w,hi,hs=>by
  simp only[List.length_nil,List.range'_zero,List.nil_append]
  exact hQ _ _ _ hi hs
 |⟨d,op,ty,pos,af,g⟩::r,k,hk,e,h,a,w,hi,hs=>by
  have ho:ops[k]? =some ⟨d,op,ty,pos,af,g⟩:=by
   have:=hk 0 (by simp)
   simpa using this
  have hr:∀j,j<r.length→ops[k+1+j]? =r[j]? :=fun j hj=>by
   have:=hk (j+1) (by simpa using hj)
   rw[show k+1+j=k+(j+1) by omega,this];simp
  have hd:dOk N d:=by cases g<;>exact hs.1
  simp only[List.length_cons,List.range'_succ,List.cons_append,wpOps,ho]
  have run:@Op1 P ⟨d⟩ ⟨op⟩ ⟨fun v hp=>ChF P N ops.toList K r (yT e d v) hp⟩ e h→Oper.wp P ⟨d,op,ty,pos,af,g⟩ a w (wpOps P ops Q' (List.range' (k+1) r.length++rest)) Q':=fun hs=>by
   obtain⟨R,ι,hR,hinv⟩:=hi.inv
   refine agb hinv (Op1.sound hs ty pos af g) fun x w' R' ι' av hp' hR' hK hx hm hi'=>?_
   exact ZC hQ r (k+1) hr (hi.put (o:=⟨d,op,ty,pos,af,g⟩) hd hR hR' hx hm hi') hK
  have skip:ChF P N ops.toList K r (yT e d (.v (.tuple ⟨[]⟩))) h→wpOps P ops Q' (List.range' (k+1) r.length++rest) (a.put d undef) w:=fun hs=>by
   obtain⟨R,ι,hR,hinv⟩:=hi.inv
   exact ZC hQ r (k+1) hr (hi.put (o:=⟨d,op,ty,pos,af,g⟩) hd hR (fun _ h=>.inl h) (.fr _ _ (.v _)) (by simp[AV.All]) hinv) hs
  cases g with
  |none=>
   rw[if_pos (by simp[Region.wanted])]
   exact .inl (run hs.2)
  |some p=>
   obtain⟨j,want⟩:=p
   have h2:=hs.2
   unfold aaP at h2
   dsimp only at h2
   split at h2
   ·rename_i d' hd'
    have key:∀v c,e d'=.v v→(match v with| .bool b=>some b|_=>none)=c→yielded ops a.tmps j=c:=by
     intro v c hv hc
     obtain⟨R,ι,hR,hinv⟩:=hi.inv
     have:=hinv.env d'
     change Rep _ _ _ _ (e d')at this
     rw[hv]at this
     have:=this.v_inv
     unfold yielded
     rw[Array.getElem?_toList]at hd'
     rw[hd']
     rw[Array.getD_eq_getD_getElem?]at this
     cases ee:a.tmps[d']? with
     |none=>
      rw[ee]at this
      subst hc
      have:v=undef:=this.symm
      subst this;simp[ee,undef]
     |some y=>rw[ee]at this;simp at this;subst this;subst hc;simp only[Option.bind_some,ee];cases y<;>rfl
    unfold JF at h2
    split at h2
    ·rename_i b hb
     have hy:=key _ _ hb rfl
     have hw:Region.wanted ⟨d,op,ty,pos,af,some (j,want)⟩ (yielded ops a.tmps)=(b==want):=by
      simp only[Region.wanted,hy]
      cases b<;>cases want<;>rfl
     rw[hw]
     cases hbw:b==want with
     |true=>rw[if_pos rfl];exact .inl (run (h2.1 hbw))
     |false=>rw[if_neg (by simp)];exact skip (h2.2 hbw)
    ·rename_i hb
     have hy:=key _ _ hb rfl
     have hw:Region.wanted ⟨d,op,ty,pos,af,some (j,want)⟩ (yielded ops a.tmps)=false:=by
      simp only[Region.wanted,hy]
      cases want<;>rfl
     rw[hw,if_neg (by simp)]
     exact skip (h2.2 rfl)
    ·exact h2.elim
   ·exact h2.elim
theorem aQG{N:Nat}{l:List Oper}{Q:St→Prop}{e:Nat→AV}{h:Nat→Ob}{E:List (Nat×AV)}{H:List (Nat×Ob)}(hl:Le ⟨e,h⟩ ⟨ofL .un E,ofH H⟩)(hd:@alH P N ⟨l⟩ ⟨Q⟩ ⟨ofL .un E,ofH H⟩):@alH P N ⟨l⟩ ⟨Q⟩ ⟨e,h⟩:=
 fun id=>AW.le hl (hd id)
theorem AW.regSplit{N:Nat}{Q:Exit→St→Prop}{e:Nat→AV}{h:Nat→Ob}{id:Nat}{l:List Oper}{y:Code}(k:Nat){pre suf:List Oper}(hp:l.take k=pre)(hs:l.drop k=suf){E:List (Nat×AV)}{H:List (Nat×Ob)}
  (h1:@Ch P N ⟨l⟩ ⟨pre⟩ ⟨fun σ'=>Le σ' ⟨ofL .un E,ofH H⟩⟩ e h) (h2:@Ch P N ⟨l⟩ ⟨suf⟩ ⟨fun σ=>@W P N ⟨y⟩ ⟨Q⟩ σ.env σ.hp⟩ (ofL .un E) (ofH H)):AW P N (.seq (.region id ⟨l⟩ false) y) Q ⟨e,h⟩:=by
 refine AW.seq fun L w0 R0 a w hi=>wp_region ?_
 have hl:l=pre++suf:=by rw[←hp,←hs,List.take_append_drop]
 have hr:List.range (⟨l⟩:Array Oper).size=List.range' 0 pre.length++(List.range' pre.length suf.length++[]):=by
  have hsz:(⟨l⟩:Array Oper).size=pre.length+suf.length:=by show l.length=_;rw[hl,List.length_append]
  rw[hsz,List.append_nil,List.range_eq_range',List.range'_append_1.symm,Nat.zero_add]
 rw[hr]
 refine ZC (K:=fun σ'=>Le σ' ⟨ofL .un E,ofH H⟩) (fun σ a w hi2 hle=>?_) pre 0 (fun j hj=>?_) hi h1
 ·refine ZC (K:=fun σ=>@W P N ⟨y⟩ ⟨Q⟩ σ.env σ.hp) (fun σ a w hi3 hq=>?_) suf pre.length (fun j hj=>?_) (hle L w0 R0 N a w hi2) h2
  ·exact⟨σ,hi3,W.sound hq⟩
  ·rw[List.getElem?_toArray,hl,List.getElem?_append_right (by omega),Nat.add_sub_cancel_left]
 ·rw[List.getElem?_toArray,hl,Nat.zero_add,List.getElem?_append_left hj]
end
end Go.Ab
namespace Go.Ab
open Go Go.Proofs
instance (lo hi:Int)(x:ExV):Decidable (x.bd lo hi):=inferInstanceAs (Decidable ((x.m=0→x.s=false)∧lo≤x.e∧(bl x.m:Int)+x.e≤hi))
instance (lo hi:Int)(x:SpV):Decidable (x.bd lo hi):=inferInstanceAs (Decidable (x.lo.bd lo hi∧x.hi.bd lo hi))
instance (lo hi:Int)(l:List ExV):Decidable (gbd lo hi l):=inferInstanceAs (Decidable (∀x∈l,x.bd lo hi))
instance (lo hi:Int)(l:List SpV):Decidable (sbd lo hi l):=inferInstanceAs (Decidable (∀x∈l,x.bd lo hi))
def hB:List SpV:=(zy 1 [ex0] (ex1.shift 0)).map ptS
def hSt:Nat→List SpV×List SpV
 |0=>((gId 1).map ptS,(gId 1).map ptS)
 |i+1=>(aaV (hSt i).1 ((jM 1 (hSt i).2 hB).map fun s=>s.divd (i+1) (-22)),(jM 1 (hSt i).2 hB).map fun s=>s.divd (i+1) (-22))
def aRP:List SpV:=(hSt 7).1.map fun s=>s.fat (ex1.shift (-22))
def aJk:List SpV:=aRP.map fun s=>s.out (-14)
theorem Jb:∀i,(hSt i).1.length=1∧(hSt i).2.length=1
 |0=>by decide+kernel
 |i+1=>⟨aaU.trans (Jb i).1,by show(List.map _ _).length=1;rw[List.length_map];exact Jc⟩
theorem asv:∀i,i<8→sbd (-100000) 100000 (hSt i).1∧sbd (-100000) 100000 (hSt i).2∧sbd (-100000) 100000 (jM 1 (hSt i).2 hB):=by decide+kernel
theorem bjY:tmF 22=7:=by decide+kernel
set_option maxRecDepth 100000 in
theorem aty(n:Nat)(h1:n=1):Con Tryz.prog 71 false [.ag [.v (.int .i64 (n)),.sl ([ex0]).length (ql ExV.cs ([ex0]))],.v (.int .i64 (-10))] [] (isA (.ag [.v (.int .i64 (n)),.sl (aJk).length (ql SpV.cs (aJk))])):=by
 refine Con.frzA ?_
 have hn:n≤4:=by omega
 have cn:=QC n [ex0] hn (by rw[h1];rfl) (by decide+kernel)
 rw[show je n [ex0] n=ex0 by rw[h1];decide+kernel]at cn
 have cz:Con Tryz.prog 158 true [.ag [.v (.bool (ex0).s),.sl (lim (ex0).m).length (qc (lim (ex0).m)),.v (.int .i64 (ex0).e)]] [] (isA (.v (.bool true))):=yO ex0.s ex0.m ex0.e
 have cs:=Q4 ex1 0 (by decide) (by decide)
 have cg:=Qf n [ex0] (ex1.shift 0) hn (by rw[h1];rfl) (by decide+kernel) (by decide+kernel)
 have cf:=Jx n (zy n [ex0] (ex1.shift 0)) (by show(gl _ _ _).length≤_;rw[zg,h1];decide)
 rw[show(zy n [ex0] (ex1.shift 0)).map ptS=hB by rw[h1];rfl]at cf
 have ci:=atB n hn
 have cfi:=Jx n (gId n) (by show(gl _ _ _).length≤_;rw[zg,h1];decide)
 rw[show(gId n).map ptS=(hSt 0).1 by rw[h1];rfl]at cfi
 have ct:Con Tryz.prog 162 true [.v (.int .i64 (-22))] [] (isA (.v (.int .i64 7))):=by have:=as5 22 (by omega);rw[bjY]at this;exact this
 have hw:(-10-2*0-12:Int)= -22:=rfl
 have cs2:=Q4 ex1 (-22) (by decide) (by decide)
 have cft:=aHt n (hSt 7).1 (ex1.shift (-22)) (by rw[(Jb 7).1];decide) (jU (asv 7 (by decide)).1 (by omega) (by omega)) (by decide+kernel)
 change Con _ _ _ _ _ (isA (.ag [.v (.int .i64 (n)),.sl (aRP).length (ql SpV.cs (aRP))]))at cft
 have cot:=aHs n aRP (-14) (by show(List.map _ _).length≤_;rw[List.length_map,(Jb 7).1];decide) (by decide+kernel) (by omega)
 change Con _ _ _ _ _ (isA (.ag [.v (.int .i64 (n)),.sl (aJk).length (ql SpV.cs (aJk))]))at cot
 generalize zy n [ex0] (ex1.shift 0)=G at*
 generalize gId n=I at*
 refine Con.of_w (rs:=[.cell 4 107]) Tryz.func71 rfl Tryz.ntmps71 rfl ?_
 simp(disch:=omega)only[go_sem]
 refine qa (cn) ?_
 simp(disch:=omega)only[go_sem]
 refine qn (cz) ?_
 simp(disch:=omega)only[go_sem]
 rw[hw]
 refine qs rfl [⟨0,[],[]⟩,⟨2,[0],[]⟩,⟨3,[0],[]⟩,⟨7,[0],[]⟩,⟨1,[0],[100000000]⟩,⟨4,[0],[100000000]⟩,⟨5,[],[100000000]⟩,⟨6,[],[100000000]⟩,⟨8,[],[]⟩] (by kernel_rfl) ?_
 simp(disch:=omega)only[go_sem]
 refine qa (ZB) ?_
 simp(disch:=omega)only[go_sem]
 refine qa (cs) ?_ (by simp(disch:=omega)only[go_sem,show(0-0:Int)=0 from rfl])
 simp(disch:=omega)only[go_sem]
 refine qa (cg) ?_
 simp(disch:=omega)only[go_sem]
 refine qa (cf) ?_
 simp(disch:=omega)only[go_sem]
 refine qa (ci) ?_
 simp(disch:=omega)only[go_sem]
 refine qa (cfi) ?_
 simp(disch:=omega)only[go_sem]
 refine qh (fun i:Nat=>[(1,.v (.int .i64 (-10))),(4,.pt 0 0),(6,.v (.int .i64 0)),(7,.v (.int .i64 (-22))),(8,.pt 1 0),(9,.pt 2 0),(10,.pt 3 0),(11,.v (.int .i64 ((i:Int)+1)))])
  (fun i=>[(0,.own 0 [.v (.int .i64 0),.v (.slice none 0 0)]),(1,.own 0 [.v (.int .i64 n),.sl hB.length (ql SpV.cs hB)]),(2,.own 0 [.v (.int .i64 n),.sl (hSt i).1.length (ql SpV.cs (hSt i).1)]),(3,.own 0 [.v (.int .i64 n),.sl (hSt i).2.length (ql SpV.cs (hSt i).2)])])
  (fun i=>i≤7) (fun i=>7-i) 0 (by omega)
  (Le.lst [(0,60000000),(1,100000000),(2,110000000),(3,120000000)] _ _ rfl (by simp(disch:=omega)only[go_sem,show(0:Int)+1=1 from rfl]) (by simp(disch:=omega)only[go_sem,show(hSt 0).2=(hSt 0).1 from rfl])) ?_
 intro i hi
 obtain⟨b1,b2,b3⟩:=asv i (by omega)
 obtain⟨l1,l2⟩:=Jb i
 have ei:(i:Int)+1=((i+1:Nat):Int):=by omega
 have hBl:hB.length=1:=by decide+kernel
 have hBb:sbd (-190000) 190000 hB:=by decide+kernel
 have cT:=al5 n (hSt i).2 hB hn (by rw[h1,l2]) (by rw[h1,hBl]) (jU b2 (by omega) (by omega)) hBb
 rw[show jM n (hSt i).2 hB=jM 1 (hSt i).2 hB by rw[h1]]at cT
 have hTl:(jM 1 (hSt i).2 hB).length=1:=Jc
 have cD:=aHu n (jM 1 (hSt i).2 hB) (i+1) (-22) (by omega) b3 (by omega) (by omega) (by omega)
 rw[←ei]at cD
 change Con _ _ _ _ _ (isA (.ag [.v (.int .i64 (n)),.sl ((hSt (i+1)).2).length (ql SpV.cs ((hSt (i+1)).2))]))at cD
 simp(disch:=omega)only[go_sem]
 refine qn (ct) ?_
 simp(disch:=omega)only[go_sem]
 refine qe (fun h2=>?_) (fun h2=>?_)
 ·have b4:=(asv (i+1) (by omega)).2.1
  have cP:=atD n (hSt i).1 (hSt (i+1)).2 (by omega) (by rw[l1];exact(Jb (i+1)).2) (jU b1 (by omega) (by omega)) (jU b4 (by omega) (by omega))
  change Con _ _ _ _ _ (isA (.ag [.v (.int .i64 (n)),.sl ((hSt (i+1)).1).length (ql SpV.cs ((hSt (i+1)).1))]))at cP
  generalize jM 1 (hSt i).2 hB=T at*
  generalize hS2:(hSt (i+1)).2=S2 at*
  generalize hS1:(hSt (i+1)).1=S1 at*
  simp(disch:=omega)only[go_sem,h2]
  refine qa (cT) ?_
  simp(disch:=omega)only[go_sem]
  refine qa (cD) ?_
  simp(disch:=omega)only[go_sem]
  refine qa (cP) ?_
  simp(disch:=omega)only[go_sem]
  exact qb (i+1) [] (by show i+1≤7;omega) (by show 7-(i+1)<7-i;omega) rfl (by simp(disch:=omega)only[go_sem];try omega) (by simp(disch:=omega)only[go_sem,hS1,hS2])
 ·obtain rfl:i=7:=by omega
  simp(disch:=omega)only[go_sem,h2]
  refine qs rfl [⟨0,[],[]⟩,⟨2,[0],[]⟩,⟨1,[0],[]⟩,⟨3,[0],[]⟩,⟨4,[],[]⟩,⟨5,[],[]⟩] (by kernel_rfl) ?_
  simp(disch:=omega)only[go_sem]
  refine qa (ZB) ?_
  simp(disch:=omega)only[go_sem]
  refine qa (cs2) ?_
  simp(disch:=omega)only[go_sem]
  refine qa (cft) ?_
  simp(disch:=omega)only[go_sem]
  refine qh (fun _:Nat=>[(1,.v (.int .i64 (-10))),(4,.pt 0 0),(9,.pt 2 0),(58,.v (.int .i64 0)),(59,.v (.int .i64 0))])
   (fun _=>[(0,.own 0 [.v (.int .i64 0),.v (.slice none 0 0)]),(2,.own 0 [.v (.int .i64 n),.sl aRP.length (ql SpV.cs aRP)])]) (fun _=>True) (fun _=>0) 0 trivial (Le.lst [] _ _ rfl (by simp(disch:=omega)only[go_sem]) (by simp(disch:=omega)only[go_sem])) ?_
  intro _ _
  have q:decide ((0:Int)<0)=false:=rfl
  simp(disch:=omega)only[go_sem,q]
  refine qa (cot) ?_ (by simp(disch:=omega)only[go_sem,show(-10-4:Int)= -14 from rfl])
  simp(disch:=omega)only[go_sem]
  exact qj
end Go.Ab
namespace Go.Ab
open Go Go.Proofs
section
variable (g:Nat)(p:DyV→Bool)
theorem ama(x:DyV)(hf:Con Tryz.prog g true [.ag x.cs] [] (isA (.v (.bool (p x)))))(hg:qp Tryz.prog g=True):
  Con Tryz.prog 297 true [.ag x.cs,.fp [.fn g []] 0] [] (isA (.v (.bool (!p x)))):=by
 unfold DyV.cs at hf ⊢
 refine Con.of_w (rs:=[.tmp 3]) Tryz.func297 rfl Tryz.ntmps297 rfl ?_
 simp(disch:=omega)only[go_sem,hg]
 refine qB hf (by simp(disch:=omega)only[go_sem]) ?_
 rintro r hs ⟨rfl,rfl,_⟩
 refine⟨by simp[qT],?_⟩
 simp(disch:=omega)only[go_sem]
 exact qy
theorem afA(f:Nat)(caps:List AV)(xs:List DyV)(hl:xs.length≤2^40)(hf:∀x∈xs,Con Tryz.prog f true (.ag x.cs::caps) [] (isA (.v (.bool (p x)))))(hg:qp Tryz.prog f=True)
  (hc:∀h:Nat→Ob,caps.map (qG h 6)=caps) (hc5:∀h:Nat→Ob,caps.map (qG h 5)=caps) (hn:∀ks,AllL (ym ks) caps) (hr:∀ρ,zN ρ caps=caps):
  Con Tryz.prog 318 true [.sl xs.length (ql DyV.cs xs),.fn f caps] [] (fun r hs bs=>∃i:Int,r=.v (.int .i64 i)∧hs=[]∧(0≤i↔∃x∈xs,p x=true)):=by
 refine Con.of_aw Tryz.func318 rfl Tryz.ntmps318 (by simp) (by simp) (by simp) (W.sound ?_)
 show @W Tryz.prog 19 ⟨_⟩ ⟨fun x σ=>@q9 _ _ _ ⟨_⟩ _ ⟨_⟩ x σ⟩ _ _
 simp(disch:=omega)only[go_sem]
 refine qh (fun i:Nat=>[(0,.sl xs.length (ql DyV.cs xs)),(1,.fn f caps),(6,.sl xs.length (ql DyV.cs xs)),(7,.v (.int .i64 xs.length)),(8,.v (.int .i64 i))])
  (fun _=>[]) (fun i=>i≤xs.length∧∀j,j<i→p (xs.getD j ⟨false,[],0⟩)=false) (fun i=>xs.length-i) 0 ⟨by omega,fun j hj=>by omega⟩ (Le.lst [] _ _ rfl (by simp(disch:=omega)only[go_sem,hr,hn]) (by simp(disch:=omega)only[go_sem])) ?_
 rintro i ⟨hi,hp⟩
 simp(disch:=omega)only[go_sem]
 refine qe (fun h1=>?_) (fun h1=>?_)
 ·have hcut:=QU (l:=xs) Yc (i:=i) (by omega) ⟨false,[],0⟩
  simp(disch:=omega)only[go_sem,h1,hcut,hg]
  refine⟨by omega,by omega,qB (hf (xs.getD i ⟨false,[],0⟩) (by rw[List.getD_eq_getElem?_getD,List.getElem?_eq_getElem (by omega)];exact List.getElem_mem _)) (by simp(disch:=omega)only[go_sem,hc,hc5]) ?_⟩
  rintro r hs ⟨rfl,rfl,_⟩
  refine⟨by simp[qT],?_⟩
  simp(disch:=omega)only[go_sem]
  refine Qb (fun h2=>?_) (fun h2=>?_)
  ·simp(disch:=omega)only[go_sem,h2]
   refine qA (by simp(disch:=omega)only[go_sem]) (by simp(disch:=omega)only[go_sem]) ⟨i,rfl,rfl,?_⟩
   refine⟨fun _=>⟨_,?_,h2⟩,fun _=>by omega⟩
   rw[List.getD_eq_getElem?_getD,List.getElem?_eq_getElem (by omega)];exact List.getElem_mem _
  ·simp(disch:=omega)only[go_sem,h2]
   refine qb (i+1) [] ⟨by omega,fun j hj=>?_⟩ (by show xs.length-(i+1)<xs.length-i;omega) rfl (by simp(disch:=omega)only[go_sem,hr,hn];try omega) (by simp(disch:=omega)only[go_sem])
   rcases(by omega:j<i∨j=i)with h|h
   ·exact hp j h
   ·subst h;exact h2
 ·simp(disch:=omega)only[go_sem,h1]
  refine qA (by simp(disch:=omega)only[go_sem]) (by simp(disch:=omega)only[go_sem]) ⟨-1,rfl,rfl,?_⟩
  refine⟨fun h=>by omega,fun⟨x,hx,hpx⟩=>?_⟩
  obtain⟨j,hj,rfl⟩:=List.getElem_of_mem hx
  have:=hp j (by omega)
  rw[List.getD_eq_getElem?_getD,List.getElem?_eq_getElem hj]at this
  simp only[Option.getD_some]at this
  rw[this]at hpx;cases hpx
theorem JQ(f:Nat)(caps:List AV)(xs:List DyV)(hl:xs.length≤2^40)(hf:∀x∈xs,Con Tryz.prog f true (.ag x.cs::caps) [] (isA (.v (.bool (p x)))))(hg:qp Tryz.prog f=True)
  (hc:∀h:Nat→Ob,caps.map (qG h 6)=caps) (hc5:∀h:Nat→Ob,caps.map (qG h 5)=caps) (hn:∀ks,AllL (ym ks) caps) (hr:∀ρ,zN ρ caps=caps):
  Con Tryz.prog 296 true [.sl xs.length (ql DyV.cs xs),.fn f caps] [] (isA (.v (.bool (xs.any p)))):=by
 refine Con.of_aw Tryz.func296 rfl Tryz.ntmps296 (by simp) (by simp) (by simp) (W.sound ?_)
 show @W Tryz.prog 9 ⟨_⟩ ⟨fun x σ=>@q9 _ _ _ ⟨_⟩ _ ⟨_⟩ x σ⟩ _ _
 simp(disch:=omega)only[go_sem]
 refine qB (afA p f caps xs hl hf hg hc hc5 hn hr) (by simp(disch:=omega)only[go_sem,hc,hc5]) ?_
 rintro r hs ⟨i,rfl,rfl,hi⟩
 refine⟨by simp[qT],?_⟩
 simp(disch:=omega)only[go_sem]
 refine qA (by simp(disch:=omega)only[go_sem]) (by simp(disch:=omega)only[go_sem]) ⟨?_,rfl,rfl⟩
 have:decide (0≤i)=xs.any p:=by rw[Bool.eq_iff_iff,decide_eq_true_eq,hi,List.any_eq_true]
 rw[this];rfl
theorem atI(xs:List DyV)(hl:xs.length≤2^40)(hf:∀x∈xs,Con Tryz.prog g true [.ag x.cs] [] (isA (.v (.bool (p x)))))(hg:qp Tryz.prog g=True):
  Con Tryz.prog 250 true [.sl xs.length (ql DyV.cs xs),.fn g []] [] (isA (.v (.bool (xs.all p)))):=by
 refine Con.of_aw Tryz.func250 rfl Tryz.ntmps250 (by simp) (by simp) (by simp) (W.sound ?_)
 show @W Tryz.prog 9 ⟨_⟩ ⟨fun x σ=>@q9 _ _ _ ⟨_⟩ _ ⟨_⟩ x σ⟩ _ _
 simp(disch:=omega)only[go_sem]
 refine qB (JQ (fun x=> !p x) 297 [.fp [.fn g []] 0] xs hl (fun x hx=>ama g p x (hf x hx) hg) (by simp(disch:=omega)only[go_sem]) (fun h=>rfl) (fun h=>rfl) (fun ks=>by simp(disch:=omega)only[go_sem]) (fun ρ=>rfl)) (by simp(disch:=omega)only[go_sem]) ?_
 rintro r hs ⟨rfl,rfl,_⟩
 refine⟨by simp[qT],?_⟩
 simp(disch:=omega)only[go_sem]
 refine qA (by simp(disch:=omega)only[go_sem]) (by simp(disch:=omega)only[go_sem]) ⟨?_,rfl,rfl⟩
 have:(!xs.any fun x=> !p x)=xs.all p:=by rw[List.all_eq_not_any_not]
 rw[this];rfl
end
def DyV.ok(x:DyV):Bool:=dyB x.s x.xs x.e
theorem al9(xs:List DyV)(hl:xs.length≤2^40)(hx:∀x∈xs,x.xs.length≤2^40):Con Tryz.prog 164 true [.sl xs.length (ql DyV.cs xs)] [] (isA (.v (.bool (xs.all DyV.ok)))):=by
 refine Con.of_w (rs:=[.tmp 2]) Tryz.func164 rfl Tryz.ntmps164 rfl ?_
 simp(disch:=omega)only[go_sem]
 refine qn (atI 74 DyV.ok xs hl (fun x h=>aHv x.s x.xs x.e (hx x h)) (by simp(disch:=omega)only[go_sem])) ?_
 simp(disch:=omega)only[go_sem]
 exact qy
def YM(n:Int)(l:List DyV):Bool:=(decide (1≤n)&&decide (n≤4))&&(decide ((l.length:Int)=n*n)&&l.all DyV.ok)
theorem abo(n:Int)(l:List DyV)(hl:l.length≤2^40)(hx:∀x∈l,x.xs.length≤2^40):Con Tryz.prog 73 true [.ag [.v (.int .i64 n),.sl l.length (ql DyV.cs l)]] [] (isA (.v (.bool (YM n l)))):=by
 unfold YM
 cases h1:(decide (1≤n)&&decide (n≤4))
 ·rw[Bool.false_and]
  refine Con.of_w (rs:=[.tmp 2]) Tryz.func73 rfl Tryz.ntmps73 rfl ?_
  simp(disch:=omega)only[go_sem]
  refine qn (zv n 1 4) ?_
  simp(disch:=omega)only[go_sem]
  simp(disch:=omega)only[go_sem,h1]
  exact qy
 ·rw[Bool.true_and]
  have h1':1≤n∧n≤4:=by simpa using h1
  have hq:0≤n*n∧n*n≤16:=⟨Int.mul_nonneg (by omega) (by omega),Int.mul_le_mul h1'.2 h1'.2 (by omega) (by omega)⟩
  cases h2:decide ((l.length:Int)=n*n)
  ·rw[Bool.false_and]
   refine Con.of_w (rs:=[.tmp 2]) Tryz.func73 rfl Tryz.ntmps73 rfl ?_
   simp(disch:=omega)only[go_sem]
   refine qn (zv n 1 4) ?_
   simp(disch:=omega)only[go_sem]
   simp(disch:=omega)only[go_sem,h1,h2]
   exact qy
  ·rw[Bool.true_and]
   refine Con.of_w (rs:=[.tmp 2]) Tryz.func73 rfl Tryz.ntmps73 rfl ?_
   simp(disch:=omega)only[go_sem]
   refine qn (zv n 1 4) ?_
   simp(disch:=omega)only[go_sem]
   simp(disch:=omega)only[go_sem,h1,h2]
   refine qn (al9 l hl hx) ?_
   simp(disch:=omega)only[go_sem]
   exact qy
end Go.Ab
namespace Go.Ab
open Go Go.Proofs
def ExV.dy(x:ExV):DyV:=⟨x.s,lim x.m,x.e⟩
theorem aI8(l:List ExV):ql ExV.cs l=ql DyV.cs (l.map ExV.dy):=by unfold ql;rw[List.map_map];rfl
def ExV.ok(x:ExV):Bool:=dyB x.s (lim x.m) x.e
def aJf(n:Int)(l:List ExV):Bool:=(decide (1≤n)&&decide (n≤4))&&(decide ((l.length:Int)=n*n)&&l.all ExV.ok)
theorem asa(n:Int)(l:List ExV):YM n (l.map ExV.dy)=aJf n l:=by
 unfold YM aJf
 rw[List.length_map,List.all_map];rfl
theorem Ys(n:Int)(l:List ExV)(hl:l.length≤2^40)(hx:∀x∈l,(lim x.m).length≤2^40):Con Tryz.prog 73 true [.ag [.v (.int .i64 n),.sl l.length (ql ExV.cs l)]] [] (isA (.v (.bool (aJf n l)))):=by
 have:=abo n (l.map ExV.dy) (by rw[List.length_map];exact hl) (fun x h=>by
  obtain⟨y,hy,rfl⟩:=List.mem_map.1 h
  exact hx y hy)
 rw[asa,←aI8,List.length_map]at this
 exact this
theorem aOE{x:ExV}(h:x.ok=true):x.bd (-3000) 4600:=by
 obtain⟨m,e1,h1,h2,h3,_,h4⟩:=Jk h
 have e2:x.m=m:=Qa e1
 subst e2
 exact⟨h4,by omega,by omega⟩
def alg(F:List SpV)(X:List ExV)(k:Nat):List ExV:=(List.range k).map fun i=>zx [((F.getD i sp0).hi.plus (X.getD i ex0).neg).abs,((X.getD i ex0).plus (F.getD i sp0).lo.neg).abs]
theorem Qp{F:List SpV}{X:List ExV}{k:Nat}:(alg F X k).length=k:=by simp[alg]
theorem arT{F:List SpV}{X:List ExV}{k:Nat}:alg F X (k+1)=alg F X k++[zx [((F.getD k sp0).hi.plus (X.getD k ex0).neg).abs,((X.getD k ex0).plus (F.getD k sp0).lo.neg).abs]]:=by simp[alg,List.range_succ]
theorem arS{lo hi:Int}{s:SpV}{x:ExV}(hs:s.bd lo hi)(hx:x.bd lo hi):gbd lo (hi+1) [(s.hi.plus x.neg).abs,(x.plus s.lo.neg).abs]:=by
 intro y hy
 simp only[List.mem_cons,List.not_mem_nil,or_false]at hy
 rcases hy with rfl|rfl
 ·exact ExV.abs_bd (ExV.plus_bd hs.2 (ExV.neg_bd hx))
 ·exact ExV.abs_bd (ExV.plus_bd hx (ExV.neg_bd hs.1))
theorem aOI{lo hi:Int}{F:List SpV}{X:List ExV}{k:Nat}(hF:sbd lo hi F)(hX:gbd lo hi X)(h1:k≤F.length)(h2:k≤X.length):gbd lo (hi+1) (alg F X k):=by
 intro y hy
 simp only[alg,List.mem_map,List.mem_range]at hy
 obtain⟨i,hi,rfl⟩:=hy
 exact Zx (arS (jA hF (by omega)) (qJ hX (by omega))) (by simp)
def agt(n:Nat)(F:List SpV)(low:Int):List ExV:=amt n (F.map ae3) low 0
def jN(n:Nat)(F:List SpV)(low:Int):ExV:=je n (alg F (agt n F low) (n*n)) n
theorem aPd{lo hi:Int}{s:SpV}(hs:s.bd lo hi):(ae3 s).bd (lo-1) hi:=by
 have:=ExV.shift_bd (k:= -1) (ExV.plus_bd hs.1 hs.2)
 exact this.mono (by omega) (by omega)
theorem Je{lo hi low mode:Int}{n:Nat}{l:List ExV}(hl:l.length=n*n)(h:gbd lo hi l)(h1:lo≤low)(h2:low≤hi):gbd lo (hi+1) (amt n l low mode):=
 aaQ fun i j hi hj=>ExV.rnd_bd (qJ h (by rw[hl];exact qS hi hj)) h1 h2
set_option maxRecDepth 100000 in
set_option maxHeartbeats 2000000 in
theorem afK(n:Nat)(L:List ExV)(low:Int)(F:List SpV)(hn:n≤4)(hL:L.length=n*n)(hlow: -1000≤low∧low≤1000)(ca:Con Tryz.prog 69 true [.ag [.v (.int .i64 (n)),.sl (L).length (ql ExV.cs (L))],.v (.int .i64 low)] [] (isA (.v (.bool true))))
  (ch:Con Tryz.prog 71 false [.ag [.v (.int .i64 (n)),.sl (L).length (ql ExV.cs (L))],.v (.int .i64 low)] [] (isA (.ag [.v (.int .i64 (n)),.sl (F).length (ql SpV.cs (F))]))) (hF:F.length=n*n) (hFb:sbd (-300000) 300000 F) (hfit:F.all SpV.fit=true):
  Con Tryz.prog 65 false [.ag [.v (.int .i64 (n)),.sl (L).length (ql ExV.cs (L))],.v (.int .i64 low)] []
   (isA (if((agt n F low).all ExV.fit&&(jN n F low).fit)=true then .tu [.ag [.v (.int .i64 n),.sl (agt n F low).length (ql ExV.cs ((agt n F low).map ExV.can))],.ag [.v (.bool ((jN n F low).can).s),.sl (lim ((jN n F low).can).m).length (qc (lim ((jN n F low).can).m)),.v (.int .i64 ((jN n F low).can).e)],.v (.bool true)]else .tu [.ag [.v (.int .i64 0),.sl 0 []],.ag [.v (.bool (false)),.sl (lim (0)).length (qc (lim (0))),.v (.int .i64 (0))],.v (.bool false)])):=by
 refine Con.frzA ?_
 have hq:=jv hn
 have cg:=zY n L (by omega)
 have cv:=atx n F (by omega) (jU hFb (by omega) (by omega))
 rw[hfit,if_pos rfl]at cv
 have cm:=aQJ n F (by omega) (jU hFb (by omega) (by omega))
 have hml:(F.map ae3).length=n*n:=by rw[List.length_map,hF]
 have hmb:gbd (-300001) 300000 (F.map ae3):=by
  intro x hx
  obtain⟨s,hs,rfl⟩:=List.mem_map.1 hx
  exact(aPd (hFb s hs)).mono (by omega) (by omega)
 have cr:=QD n (F.map ae3) low 0 hn hml (qw hmb (by omega) (by omega)) (by omega)
 have hXl:(agt n F low).length=n*n:=by unfold agt amt;exact zg
 have hXb:gbd (-300001) 300001 (agt n F low):=Je hml hmb (by omega) (by omega)
 change Con _ _ _ _ _ (isA (.ag [.v (.int .i64 (n)),.sl (agt n F low).length (ql ExV.cs (agt n F low))]))at cr
 have hOb:gbd (-300001) 300002 (alg F (agt n F low) (n*n)):=aOI (jU hFb (by omega) (by omega)) hXb (by omega) (by omega)
 have cno:=QC n (alg F (agt n F low) (n*n)) hn Qp (qw hOb (by omega) (by omega))
 change Con _ _ _ _ _ (isA (.ag [.v (.bool (jN n F low).s),.sl (lim (jN n F low).m).length (qc (lim (jN n F low).m)),.v (.int .i64 (jN n F low).e)]))at cno
 have hFar:(jN n F low).bd (-300001) 300006:=(Qr Qp hOb (by omega) n (Nat.le_refl _)).mono (by omega) (by omega)
 have cw:=yX n (agt n F low) (jN n F low) (by omega) (qw hXb (by omega) (by omega)) (hFar.mono (by omega) (by omega))
 generalize jN n F low=far at*
 generalize agt n F low=X at*
 generalize F.map ae3=M at*
 generalize F.map SpV.can=FC at*
 refine Con.of_w (rs:=[.cell 4 25,.cell 5 42,.tmp 6]) Tryz.func65 rfl Tryz.ntmps65 rfl ?_
 simp(disch:=omega)only[go_sem]
 refine qn (ca) ?_
 simp(disch:=omega)only[go_sem]
 refine qa (cg) ?_
 simp(disch:=omega)only[go_sem]
 refine qa (ch) ?_
 simp(disch:=omega)only[go_sem]
 refine qa (cv) ?_
 simp(disch:=omega)only[go_sem]
 refine qa (cm) ?_
 simp(disch:=omega)only[go_sem]
 refine qa (cr) ?_
 simp(disch:=omega)only[go_sem]
 refine qh (fun i:Nat=>[(4,.pt 2 0),(5,.pt 3 0),(7,.pt 4 0),(10,.pt 5 0),(11,.pt 0 0),(41,.sl F.length (ql SpV.cs F)),(42,.v (.int .i64 F.length)),(43,.v (.int .i64 i))])
  (fun i=>[(0,.own 0 [.v (.int .i64 n),.rf 1 0 i]),(1,.own 3 (ql ExV.cs (alg F X i))),(2,.own 0 [.v (.int .i64 0),.v (.slice none 0 0)]),(3,.own 0 [.v (.bool false),.v (.slice none 0 0),.v (.int .i64 0)]),(4,.own 0 [.v (.int .i64 n),.sl F.length (ql SpV.cs F)]),(5,.own 0 [.v (.int .i64 n),.sl X.length (ql ExV.cs X)])])
  (fun i=>i≤F.length) (fun i=>F.length-i) 0 (by omega)
  ((Le.ghostC 130000000 1 1 3 (zo:=0) (cs:=[.v (.int .i64 n),.v (.slice none 0 0)]) (by simp(disch:=omega)only[go_sem]) rfl (by simp(disch:=omega)only[go_sem])).trans (Le.lst [(0,130000000),(2,60000000),(3,70000000),(4,90000000),(5,120000000)] _ _ rfl (by simp(disch:=omega)only[go_sem]) (by simp(disch:=omega)only[go_sem,show alg F X 0=[] from rfl,j9,List.set_cons_succ,List.set_cons_zero]))) ?_
 intro i hi
 simp(disch:=omega)only[go_sem]
 refine qe (fun h1=>?_) (fun h1=>?_)
 ·have hi2:i<F.length:=by omega
  have hci:=y0 hi2
  have hcx:=zU (l:=X) (i:=i) (by omega)
  have hcut:=zn (Qp (F:=F) (X:=X) (k:=i))
  have hs:=arT (F:=F) (X:=X) (k:=i)
  have bs:=jA hFb hi2
  have bx:=qJ hXb (show i<X.length by omega)
  have b2:=arS (SpV.bd.mono bs (by omega) (by omega)) bx
  generalize F.getD i sp0=s at*
  generalize X.getD i ex0=x at*
  simp(disch:=omega)only[go_sem,h1,hci]
  refine⟨by omega,by omega,?_⟩
  refine qs rfl [⟨0,[],[]⟩,⟨1,[],[]⟩,⟨2,[1],[]⟩,⟨3,[1],[]⟩,⟨4,[1,3],[]⟩,⟨5,[1,3],[]⟩,⟨6,[1,3,5],[]⟩,⟨7,[1,3],[]⟩,⟨8,[1,3],[]⟩,⟨11,[1,3,5,8],[]⟩,⟨12,[1,3,5,8],[]⟩,⟨13,[1,3,5,8,12],[]⟩,⟨14,[1,3,5,8],[]⟩,⟨15,[1,3,5,8],[]⟩,⟨16,[1,3,5,8,12,15],[]⟩,⟨17,[1,3,5,8,12,15],[]⟩,⟨9,[1,12,15,17],[]⟩,⟨10,[1,12,15,17],[]⟩,⟨18,[1],[]⟩,⟨19,[1],[]⟩,⟨20,[1],[]⟩,⟨21,[1],[]⟩,⟨22,[1],[]⟩,⟨23,[],[]⟩,⟨24,[],[]⟩,⟨25,[],[]⟩] (by kernel_rfl) ?_
  simp(disch:=omega)only[go_sem,hcx]
  refine⟨by omega,by omega,by omega,by omega,?_⟩
  refine qa (yM s.hi x (bs.2.mono (by omega) (by omega)) (bx.mono (by omega) (by omega))) ?_
  simp(disch:=omega)only[go_sem]
  refine qa (Xe (s.hi.plus x.neg)) ?_
  simp(disch:=omega)only[go_sem]
  refine qa (yM x s.lo (bx.mono (by omega) (by omega)) (bs.1.mono (by omega) (by omega))) ?_
  simp(disch:=omega)only[go_sem]
  refine qa (Xe (x.plus s.lo.neg)) ?_
  simp(disch:=omega)only[go_sem]
  generalize (s.hi.plus x.neg).abs=A at*
  generalize (x.plus s.lo.neg).abs=B at*
  have hrow:([.v (.bool A.s),.sl (lim A.m).length (qc (lim A.m)),.v (.int .i64 A.e),.v (.bool B.s),.sl (lim B.m).length (qc (lim B.m)),.v (.int .i64 B.e)]:List AV)=ql ExV.cs [A,B]:=rfl
  rw[hrow]
  refine zh false [700000000] (aa5 [A,B] (by simp) (by simp) (qw b2 (by omega) (by omega))) (by simp(disch:=omega)only[go_sem]) (by simp(disch:=omega)only[go_sem]) rfl (qX (z:=3) (cs:=ql ExV.cs [A,B]) (by simp(disch:=omega)only[go_sem]) (by simp(disch:=omega)only[go_sem])) (by intro n hn;exact⟨_,List.mem_cons_self ..,by rw[List.mem_singleton.1 hn];rfl⟩) ?_
  rintro r hs2 bs2 ⟨rfl,rfl,rfl⟩-
  refine⟨by simp[qT],?_⟩
  simp(disch:=omega)only[go_sem,hcut,j8]
  refine⟨⟨by rw[Qp];exact Nat.le_refl _,by omega⟩,qb (i+1) [(1,730000000)] (by show i+1≤_;omega) (by show F.length-(i+1)<F.length-i;omega) rfl (by simp(disch:=omega)only[go_sem];try omega) (by simp(disch:=omega)only[go_sem,hs])⟩
 ·simp(disch:=omega)only[go_sem,h1]
  obtain rfl:i=F.length:=by omega
  have hol:=Qp (F:=F) (X:=X) (k:=n*n)
  rw[hF]
  generalize alg F X (n*n)=O at*
  rw[hol]at cno
  refine aQG (E:=[(4,.pt 2 0),(5,.pt 3 0),(10,.pt 5 0),(11,.pt 0 0)]) (H:=[(0,.own 0 [.v (.int .i64 n),.sl (n*n) (ql ExV.cs O)]),(2,.own 0 [.v (.int .i64 0),.v (.slice none 0 0)]),(3,.own 0 [.v (.bool false),.v (.slice none 0 0),.v (.int .i64 0)]),(5,.own 0 [.v (.int .i64 n),.sl X.length (ql ExV.cs X)])])
   ((Le.frz 1 (z:=3) (ks:=ql ExV.cs O) (by simp(disch:=omega)only[go_sem]) rfl (by simp(disch:=omega)only[go_sem])).trans (Le.lst [] _ _ rfl (by simp(disch:=omega)only[go_sem]) (by simp(disch:=omega)only[go_sem,zn hol]))) ?_
  refine qs rfl [⟨0,[],[]⟩,⟨1,[0],[]⟩,⟨2,[0],[]⟩,⟨3,[],[]⟩,⟨4,[],[]⟩,⟨5,[],[]⟩,⟨6,[],[]⟩,⟨7,[],[]⟩,⟨8,[],[]⟩,⟨9,[],[]⟩] (by kernel_rfl) ?_
  simp(disch:=omega)only[go_sem]
  refine qa (cno) ?_
  simp(disch:=omega)only[go_sem]
  cases hc:(X.all ExV.fit&&far.fit)
  ·rw[hc,if_neg (by simp)]at cw
   rw[if_neg (by simp)]
   refine qa (cw) ?_
   simp(disch:=omega)only[go_sem]
   exact qj (hp:=by simp(disch:=omega)only[go_sem,qo,List.length_nil,ji])
  ·rw[hc,if_pos rfl]at cw
   rw[if_pos rfl]
   refine qa (cw) ?_
   simp(disch:=omega)only[go_sem]
   exact qj
theorem abc(n:Nat)(h1:n=1):Con Tryz.prog 69 true [.ag [.v (.int .i64 (n)),.sl ([ex0]).length (ql ExV.cs ([ex0]))],.v (.int .i64 (-10))] [] (isA (.v (.bool true))):=by
 have cm:=Ys n [ex0] (by decide) (by intro x hx;rw[List.mem_singleton.1 hx];show(lim 0).length≤_;rw[qo];decide)
 have hm:aJf n [ex0]=true:=by
  rw[h1];unfold aJf;rw[List.all_cons,List.all_nil,show ex0.ok=true by show dyB false (lim 0) 0=true;rw[qo];decide];decide
 rw[hm]at cm
 have cg:=zY n [ex0] (by decide)
 have cn:=QC n [ex0] (by omega) (by rw[h1];rfl) (by decide+kernel)
 rw[show je n [ex0] n=ex0 by rw[h1];decide+kernel]at cn
 have cc:=QE ex0 (exN 64) (by decide+kernel) (by decide+kernel)
 rw[show ex0.cmp (exN 64)= -1 by decide+kernel]at cc
 have q:decide ((-1:Int)≤0)=true:=rfl
 have q1:(decide ((-120:Int)≤ -10)&&decide ((-10:Int)≤0))=true:=rfl
 have cwi:=zv (-10) (-120) 0
 rw[q1]at cwi
 refine Con.of_w (rs:=[.tmp 4]) Tryz.func69 rfl Tryz.ntmps69 rfl ?_
 simp(disch:=omega)only[go_sem]
 refine qn (cm) ?_
 simp(disch:=omega)only[go_sem]
 refine qn (cwi) ?_
 simp(disch:=omega)only[go_sem]
 refine qa (cg) ?_
 simp(disch:=omega)only[go_sem]
 refine qa (cn) ?_
 simp(disch:=omega)only[go_sem]
 refine qa (zp 64 (by omega)) ?_
 simp(disch:=omega)only[go_sem]
 refine qB cc (by simp(disch:=omega)only[go_sem,exN]) ?_
 rintro r hs ⟨rfl,rfl,_⟩
 refine⟨by simp[qT],?_⟩
 simp(disch:=omega)only[go_sem,q]
 exact qy
end Go.Ab
namespace Go.Ab
open Go Go.Proofs
theorem jo(cl:Bool)(xs:List Int)(m:Nat)(hl:xs.length≤2^39)(hx:gd xs)(hv:vl xs=(m:Int)):Con Tryz.prog 284 cl [.sl xs.length (qc xs)] [] (aF9 m):=by
 refine Con.of_aw Tryz.func284 rfl Tryz.ntmps284 (by simp) (by simp) (by simp) (W.sound ?_)
 show @W Tryz.prog 24 ⟨_⟩ ⟨fun x σ=>@q9 _ _ _ ⟨_⟩ _ ⟨_⟩ x σ⟩ _ _
 simp(disch:=omega)only[go_sem]
 have hcz:Jq xs=lim m:=by rw[z8 hx,hv,Int.toNat_natCast]
 refine qh (fun k:Nat=>[(0,.sl xs.length (qc xs)),(2,.pt 40000000 0),(3,.v (.int .i64 k))]) (fun _=>[(40000000,.own 0 [.v (.slice none 0 0)])]) (fun k=>k≤xs.length∧Jq (xs.take k)=Jq xs) id xs.length ⟨Nat.le_refl _,by simp⟩
  (Le.lst [] _ _ rfl (by simp(disch:=omega)only[go_sem]) (by simp(disch:=omega)only[go_sem])) ?_
 intro k ⟨hk,hc⟩
 have hkx:∀j,j+1=k→xs.take k=xs.take j++[xs.getD j 0]:=fun j hj=>by rw[←hj];exact jH (by omega)
 simp(disch:=omega)only[go_sem]
 refine qe (fun h1=>?_) (fun h1=>?_)
 ·obtain⟨j,rfl⟩:∃j,k=j+1:=⟨k-1,by omega⟩
  have e1:((j+1:Nat):Int)-1=(j:Nat):=by omega
  rw[hkx j rfl]at hc
  simp(disch:=omega)only[go_sem,h1,e1]
  refine⟨by omega,by omega,qe (fun h2=>?_) (fun h2=>?_)⟩
  ·simp(disch:=omega)only[go_sem,h2,e1]
   rw[h2,QB]at hc
   exact qb j [] ⟨by omega,hc⟩ (by show j<j+1;omega) rfl (by simp(disch:=omega)only[go_sem];try omega) (by simp(disch:=omega)only[go_sem])
  ·rw[Y4 _ h2,←hkx j rfl,hcz]at hc
   have hlm:j+1=(lim m).length:=by rw[←hc,List.length_take];omega
   have e0:(((j+1:Nat):Int)-0).toNat=(lim m).length:=by omega
   rw[hlm]at hc
   simp(disch:=omega)only[go_sem,h2,e0,hc]
   refine⟨by omega,by omega,?_⟩
   refine qi [(0,240000000)] [.own 1 (qc (lim m))] [] [.ag [.rf 0 0 (lim m).length]] rfl (by simp(disch:=omega)only[go_sem]) (by simp(disch:=omega)only[go_sem]) (by simp) (by intro _;simp[zl,AV.pu,AV.pu.puL,Ob.pu,q8]) (.inr ⟨[],rfl,by rw[List.append_nil]⟩)
 ·have hlm:k=(lim m).length:=by
   have:k=0:=by omega
   rw[←hcz,←hc,this];rfl
  subst hlm
  have hc:xs.take (lim m).length=lim m:=by
   have:lim m=[]:=List.length_eq_zero_iff.1 (by omega)
   rw[this];simp
  have e0:(((lim m).length:Int)-0).toNat=(lim m).length:=by omega
  simp(disch:=omega)only[go_sem,h1,e0,hc]
  refine⟨by omega,by omega,?_⟩
  refine qi [(0,240000000)] [.own 1 (qc (lim m))] [] [.ag [.rf 0 0 (lim m).length]] rfl (by simp(disch:=omega)only[go_sem]) (by simp(disch:=omega)only[go_sem]) (by simp) (by intro _;simp[zl,AV.pu,AV.pu.puL,Ob.pu,q8]) (.inr ⟨[],rfl,by rw[List.append_nil]⟩)
theorem Xa(cl:Bool)(n:Nat)(hn:n<2^63):Con Tryz.prog 257 cl [.v (.int .i64 n)] [] (aF9 n):=by
 refine Con.of_aw Tryz.func257 rfl Tryz.ntmps257 (by simp) (by simp) (by simp) (W.sound ?_)
 show @W Tryz.prog 15 ⟨_⟩ ⟨fun x σ=>@q9 _ _ _ ⟨_⟩ _ ⟨_⟩ x σ⟩ _ _
 simp(disch:=omega)only[go_sem]
 refine qh (fun x:Nat×List Int=>[(0,.v (.int .i64 x.1)),(2,.pt 2 0),(3,.rf 1 0 x.2.length)]) (fun x=>[(1,.own 1 (qc x.2)),(2,.own 0 [.v (.slice none 0 0)])]) (fun x=>x.1<2^63∧x.2++lim x.1=lim n) (fun x=>x.1) (n,[]) ⟨hn,rfl⟩
  ((Le.ghost 3 1 1 (by simp(disch:=omega)only[go_sem]) (by simp(disch:=omega)only[go_sem])).trans (Le.lst [(2,40000000)] _ _ rfl (by simp(disch:=omega)only[go_sem]) (by simp(disch:=omega)only[go_sem]))) ?_
 rintro⟨k,l⟩ ⟨hk,hl⟩
 dsimp only at hk hl ⊢
 have hlen:l.length≤4:=by
  have h1:=congrArg List.length hl
  have h2:=jB (n:=n) (k:=4) |>.2 (by omega)
  rw[List.length_append]at h1;omega
 simp(disch:=omega)only[go_sem]
 refine qe (fun h1=>?_) (fun h1=>?_)
 ·simp(disch:=omega)only[go_sem,h1]
  have hk0:k≠0:=by omega
  refine⟨by omega,qb (k/65536,l++[(k:Int) % 65536]) [(1,120000000)] ⟨by show k/65536<2^63;omega,?_⟩ (by show k/65536<k;omega) rfl (by simp(disch:=omega)only[go_sem,List.length_append];try omega) (by simp(disch:=omega)only[go_sem])⟩
  rw[j6 hk0]at hl
  rw[←hl,List.append_assoc];rfl
 ·simp(disch:=omega)only[go_sem,h1]
  have hk0:k=0:=by omega
  subst hk0
  rw[qo,List.append_nil]at hl
  subst hl
  refine qi [(0,1)] [.own 1 (qc (lim n++[]))] [] [.ag [.rf 0 0 (lim n).length]] rfl (by simp(disch:=omega)only[go_sem]) (by simp(disch:=omega)only[go_sem]) (by simp) (by intro _;simp[zl,AV.pu,AV.pu.puL,Ob.pu,q8]) (.inr ⟨[],rfl,rfl⟩)
end Go.Ab
namespace Go.Ab
open Go Go.Proofs
set_option maxRecDepth 100000 in
theorem atv(cl:Bool)(a b:Nat)(la:(lim a).length≤2000000)(lb:(lim b).length≤2000000):Con Tryz.prog 256 cl [.ag [.sl (lim (a)).length (qc (lim (a)))],.ag [.sl (lim (b)).length (qc (lim (b)))]] [] (aF9 (a+b)):=by
 refine Con.of_aw Tryz.func256 rfl Tryz.ntmps256 (by simp) (by simp) (by simp) (W.sound ?_)
 show @W Tryz.prog 61 ⟨_⟩ ⟨fun x σ=>@q9 _ _ _ ⟨_⟩ _ ⟨_⟩ x σ⟩ _ _
 simp(disch:=omega)only[go_sem]
 have hA:=ze a
 have hB:=ze b
 refine qh (fun x:Nat×List Int×Int=>[(2,.pt 3 0),(3,.pt 4 0),(4,.pt 2 0),(5,.rf 1 0 x.2.1.length),(6,.v (.int .i64 x.2.2)),(7,.v (.int .i64 x.1))])
  (fun x=>[(1,.own 1 (qc x.2.1)),(2,.own 0 [.v (.slice none 0 0)]),(3,.own 0 [.sl (lim (a)).length (qc (lim (a)))]),(4,.own 0 [.sl (lim (b)).length (qc (lim (b)))])])
  (fun x=>x.1≤max (lim a).length (lim b).length+1∧x.2.1.length=x.1∧gd x.2.1∧(0≤x.2.2∧x.2.2≤1)∧vl x.2.1+65536^x.1*x.2.2=vl ((lim a).take x.1)+vl ((lim b).take x.1)∧(max (lim a).length (lim b).length<x.1→x.2.2=0))
  (fun x=>2*(max (lim a).length (lim b).length-x.1)+x.2.2.toNat) (0,[],0) ⟨by simp,rfl,Jd,by simp,by simp[vl],fun h=>rfl⟩
  ((Le.ghost 5 1 1 (by simp(disch:=omega)only[go_sem]) (by simp(disch:=omega)only[go_sem])).trans (Le.lst [(2,60000000),(3,40000000),(4,50000000)] _ _ rfl (by simp(disch:=omega)only[go_sem]) (by simp(disch:=omega)only[go_sem]))) ?_
 rintro⟨i,out,cy⟩ ⟨hi,hol,hog,hcy,hov,hcz⟩
 dsimp only at hi hol hog hcy hov hcz ⊢
 have hx:=qM hA i
 have hy:=qM hB i
 have hxz:¬(i:Int)<(lim a).length→(lim a).getD i 0=0:=fun h=>by rw[List.getD_eq_getElem?_getD,List.getElem?_eq_none (by omega)];rfl
 have hyz:¬(i:Int)<(lim b).length→(lim b).getD i 0=0:=fun h=>by rw[List.getD_eq_getElem?_getD,List.getElem?_eq_none (by omega)];rfl
 have hstep:∀q:Int,q=cy+(lim a).getD i 0+(lim b).getD i 0→vl (out++[q % 65536])+65536^(i+1)*(q/65536)=vl ((lim a).take (i+1))+vl ((lim b).take (i+1)):=by
  intro q hq
  rw[jp,qU,qU,hol,Int.pow_succ]
  have e3:q % 65536+65536*(q/65536)=q:=Int.emod_add_mul_ediv q 65536
  generalize (65536:Int)^i=Pi at*
  grind
 have key:∀q:Int,q=cy+(lim a).getD i 0+(lim b).getD i 0→(i:Int)<(lim a).length∨(i:Int)<(lim b).length∨0<cy→
   ((i+1≤max (lim a).length (lim b).length+1∧(out++[q % 65536]).length=i+1∧gd (out++[q % 65536])∧(0≤q/65536∧q/65536≤1)∧vl (out++[q % 65536])+65536^(i+1)*(q/65536)=vl ((lim a).take (i+1))+vl ((lim b).take (i+1))∧(max (lim a).length (lim b).length<i+1→q/65536=0))∧
   2*(max (lim a).length (lim b).length-(i+1))+(q/65536).toNat<2*(max (lim a).length (lim b).length-i)+cy.toNat):=by
  intro q hq hc
  have hle:i≤max (lim a).length (lim b).length:=by
   rcases Nat.lt_or_ge (max (lim a).length (lim b).length) i with h|h
   ·have:=hcz h;omega
   ·exact h
  have hbig:max (lim a).length (lim b).length<i+1→q/65536=0:=fun h=>by
   have:=hxz (by omega)
   have:=hyz (by omega)
   omega
  refine⟨⟨by omega,by simp[hol],qH.2 ⟨hog,zT.2 (by omega)⟩,by omega,hstep q hq,hbig⟩,?_⟩
  by_cases hm:max (lim a).length (lim b).length<i+1
  ·have:=hbig hm;omega
  ·omega
 by_cases h1:(i:Int)<(lim a).length<;>by_cases h2:(i:Int)<(lim b).length
 ·simp(disch:=omega)only[go_sem,h1,h2]
  obtain⟨k1,k2⟩:=key _ rfl (.inl h1)
  refine⟨by omega,by omega,by omega,by omega,by omega,qb (i+1,out++[(cy+(lim a).getD i 0+(lim b).getD i 0) % 65536],(cy+(lim a).getD i 0+(lim b).getD i 0)/65536) [(1,580000000)] k1 k2 rfl (by simp(disch:=omega)only[go_sem,List.length_append];try omega) (by simp(disch:=omega)only[go_sem])⟩
 ·simp(disch:=omega)only[go_sem,h1,h2]
  have e0:cy+(lim a).getD i 0=cy+(lim a).getD i 0+(lim b).getD i 0:=by rw[hyz h2];omega
  obtain⟨k1,k2⟩:=key (cy+(lim a).getD i 0) e0 (.inl h1)
  refine⟨by omega,by omega,by omega,qb (i+1,out++[(cy+(lim a).getD i 0) % 65536],(cy+(lim a).getD i 0)/65536) [(1,580000000)] k1 k2 rfl (by simp(disch:=omega)only[go_sem,List.length_append];try omega) (by simp(disch:=omega)only[go_sem])⟩
 ·simp(disch:=omega)only[go_sem,h1,h2]
  have e0:cy+(lim b).getD i 0=cy+(lim a).getD i 0+(lim b).getD i 0:=by rw[hxz h1];omega
  obtain⟨k1,k2⟩:=key (cy+(lim b).getD i 0) e0 (.inr (.inl h2))
  refine⟨by omega,by omega,by omega,qb (i+1,out++[(cy+(lim b).getD i 0) % 65536],(cy+(lim b).getD i 0)/65536) [(1,580000000)] k1 k2 rfl (by simp(disch:=omega)only[go_sem,List.length_append];try omega) (by simp(disch:=omega)only[go_sem])⟩
 ·by_cases h3:0<cy
  ·simp(disch:=omega)only[go_sem,h1,h2,h3]
   have e0:cy=cy+(lim a).getD i 0+(lim b).getD i 0:=by rw[hxz h1,hyz h2];omega
   obtain⟨k1,k2⟩:=key cy e0 (.inr (.inr h3))
   refine⟨by omega,qb (i+1,out++[cy % 65536],cy/65536) [(1,580000000)] k1 k2 rfl (by simp(disch:=omega)only[go_sem,List.length_append];try omega) (by simp(disch:=omega)only[go_sem])⟩
  ·have hcy0:cy=0:=by omega
   have hov2:vl out=((a+b:Nat):Int):=by
    rw[List.take_of_length_le (by omega),List.take_of_length_le (by omega),zd,zd,hcy0]at hov
    simp at hov;omega
   simp(disch:=omega)only[go_sem,h1,h2,h3]
   refine qB (jo true out (a+b) (by omega) hog hov2) (by simp(disch:=omega)only[go_sem]) ?_
   rintro r hs (⟨h0,rfl,rfl⟩|⟨zs,rfl,rfl⟩)
   ·refine⟨⟨by simp,by simp(disch:=omega)only[go_sem]⟩,?_⟩
    simp(disch:=omega)only[go_sem]
    refine qi [] [] [] [.ag [.v (.slice none 0 0)]] rfl (by simp(disch:=omega)only[go_sem]) (by simp(disch:=omega)only[go_sem]) (by simp) (by intro _;simp[zl,AV.pu,AV.pu.puL,Ob.pu,q8]) (.inl ⟨h0,rfl,rfl⟩)
   ·refine⟨⟨by simp,by simp(disch:=omega)only[go_sem]⟩,?_⟩
    simp(disch:=omega)only[go_sem]
    refine qi [(0,620000000)] [.own 1 (qc (lim (a+b)++zs))] [] [.ag [.rf 0 0 (lim (a+b)).length]] rfl (by simp(disch:=omega)only[go_sem]) (by simp(disch:=omega)only[go_sem]) (by simp) (by intro _;simp[zl,AV.pu,AV.pu.puL,Ob.pu,q8]) (.inr ⟨zs,rfl,rfl⟩)
end Go.Ab
namespace Go.Ab
open Go Go.Proofs
set_option maxRecDepth 100000 in
theorem Yp(cl:Bool)(A:List Int)(hA:gd A)(b:Nat)(lA:A.length≤1000000)(lB:(lim b).length≤1000000)(m:Nat)(hm:vl A*(b:Int)=(m:Int)):
  Con Tryz.prog 313 cl [.ag [.sl A.length (qc A)],.ag [.sl (lim (b)).length (qc (lim (b)))]] [] (aF9 m):=by
 refine Con.of_aw Tryz.func313 rfl Tryz.ntmps313 (by simp) (by simp) (by simp) (W.sound ?_)
 show @W Tryz.prog 80 ⟨_⟩ ⟨fun x σ=>@q9 _ _ _ ⟨_⟩ _ ⟨_⟩ x σ⟩ _ _
 have hvb:=zd b
 have hB:=ze b
 generalize lim b=B at*
 simp(disch:=omega)only[go_sem]
 refine⟨by omega,?_⟩
 refine qh (fun x:Nat×List Int=>[(2,.pt 0 0),(3,.pt 1 0),(4,.pt 2 0),(5,.rf 3 0 (A.length+B.length)),(6,.v (.int .i64 x.1))])
  (fun x=>[(0,.own 0 [.sl A.length (qc A)]),(1,.own 0 [.sl B.length (qc B)]),(2,.own 0 [.v (.slice none 0 0)]),(3,.own 1 (qc x.2))])
  (fun x=>x.1≤A.length∧x.2.length=A.length+B.length∧gd x.2∧vl x.2=vl (A.take x.1)*vl B∧∀j,x.1+B.length≤j→x.2.getD j 0=0)
  (fun x=>A.length-x.1) (0,List.replicate (A.length+B.length) 0) ⟨by simp,by simp,zr _,by simp[zM,vl],fun j _=>by
   rw[List.getD_eq_getElem?_getD,List.getElem?_replicate];split<;>rfl⟩
  (Le.lst [(0,40000000),(1,50000000),(2,60000000),(3,190000000)] _ _ rfl (by simp(disch:=omega)only[go_sem];try omega) (by simp(disch:=omega)only[go_sem,show((A.length:Int)+(B.length:Int)).toNat=A.length+B.length by omega])) ?_
 rintro⟨i,out⟩ ⟨hi,hol,hog,hov,hoz⟩
 dsimp only at hi hol hog hov hoz ⊢
 simp(disch:=omega)only[go_sem]
 refine qe (fun h1=>?_) (fun h1=>?_)
 ·have hx:=qM hA i
  simp(disch:=omega)only[go_sem,h1]
  refine qh (fun x:Nat×List Int×Int=>[(2,.pt 0 0),(3,.pt 1 0),(4,.pt 2 0),(5,.rf 3 0 (A.length+B.length)),(6,.v (.int .i64 i)),(7,.v (.int .i64 x.2.2)),(8,.v (.int .i64 x.1))])
   (fun x=>[(0,.own 0 [.sl A.length (qc A)]),(1,.own 0 [.sl B.length (qc B)]),(2,.own 0 [.v (.slice none 0 0)]),(3,.own 1 (qc x.2.1))])
   (fun x=>x.1≤B.length∧x.2.1.length=A.length+B.length∧gd x.2.1∧(0≤x.2.2∧x.2.2<65536)∧vl x.2.1+65536^(i+x.1)*x.2.2=vl out+65536^i*(A.getD i 0*vl (B.take x.1))∧∀j,i+B.length≤j→x.2.1.getD j 0=0)
   (fun x=>B.length-x.1) (0,out,0) ⟨by simp,hol,hog,by simp,by simp[vl],hoz⟩
   (Le.lst [] _ _ rfl (by simp(disch:=omega)only[go_sem];try omega) (by simp(disch:=omega)only[go_sem])) ?_
  rintro⟨j,o2,cy⟩ ⟨hj,hol2,hog2,hcy,hov2,hoz2⟩
  dsimp only at hj hol2 hog2 hcy hov2 hoz2 ⊢
  simp(disch:=omega)only[go_sem]
  refine qe (fun h2=>?_) (fun h2=>?_)
  ·have hy:=qM hB j
   have ho:=qM hog2 (i+j)
   have hxy:=ar4 hx hy
   have e1:((i:Int)+(j:Int)).toNat=i+j:=by omega
   simp(disch:=omega)only[go_sem,h2]
   refine qs rfl [⟨0,[],[]⟩,⟨1,[],[]⟩,⟨2,[],[]⟩,⟨3,[],[]⟩,⟨4,[],[]⟩,⟨5,[],[]⟩,⟨6,[5],[]⟩,⟨7,[5],[]⟩,⟨8,[5,7],[]⟩,⟨9,[5],[]⟩,⟨10,[5],[]⟩,⟨11,[5,7,10],[]⟩,⟨12,[5,7,10],[]⟩,⟨13,[5,7,10,12],[]⟩,⟨14,[5,7,10],[]⟩,⟨15,[5,7,10],[]⟩,⟨16,[5],[]⟩,⟨17,[],[]⟩,⟨18,[5,7,10,12,15],[]⟩,⟨19,[],[]⟩,⟨20,[],[]⟩] (by kernel_rfl) ?_
   simp(disch:=omega)only[go_sem,e1]
   generalize hq:o2.getD (i+j) 0+A.getD i 0*B.getD j 0+cy=q
   refine⟨by omega,by omega,by omega,by omega,by omega,by omega,by omega,by omega,qb (j+1,o2.set (i+j) (q % 65536),q/65536) [] ⟨by show j+1≤_;omega,by simp[hol2],yW hog2 (by omega),by show 0≤q/65536∧q/65536<65536;omega,?_,fun k hk=>?_⟩
    (by show B.length-(j+1)<B.length-j;omega) rfl (by simp(disch:=omega)only[go_sem];try omega) (by simp(disch:=omega)only[go_sem])⟩
   ·show vl (o2.set (i+j) (q % 65536))+65536^(i+(j+1))*(q/65536)=vl out+65536^i*(A.getD i 0*vl (B.take (j+1)))
    rw[Q8 (by omega),jb (by omega),←Nat.add_assoc,Int.pow_succ]
    have e2:(65536:Int)^(i+j)=65536^i*65536^j:=Int.pow_add _ _ _
    have e3:q % 65536+65536*(q/65536)=q:=Int.emod_add_mul_ediv q 65536
    rw[e2]at hov2 ⊢
    generalize (65536:Int)^i=Pi at*
    generalize (65536:Int)^j=Pj at*
    grind
   ·show(o2.set (i+j) (q % 65536)).getD k 0=0
    rw[List.getD_eq_getElem?_getD,List.getElem?_set_ne (by omega),←List.getD_eq_getElem?_getD]
    exact hoz2 k hk
  ·simp(disch:=omega)only[go_sem,h2]
   have e1:((i:Int)+(B.length:Int)).toNat=i+B.length:=by omega
   have hjB:j=B.length:=by omega
   subst hjB
   rw[List.take_length]at hov2
   have hz:=hoz2 (i+B.length) (Nat.le_refl _)
   refine qs rfl [⟨0,[],[]⟩,⟨1,[],[]⟩,⟨2,[],[]⟩,⟨3,[],[]⟩,⟨4,[],[]⟩,⟨5,[],[]⟩,⟨6,[3],[]⟩,⟨7,[3],[]⟩,⟨8,[3],[]⟩,⟨9,[3],[]⟩,⟨10,[3],[]⟩,⟨11,[3],[]⟩,⟨12,[3],[]⟩,⟨13,[3],[]⟩,⟨14,[3,9,13],[]⟩,⟨15,[3],[]⟩,⟨16,[],[]⟩,⟨17,[],[]⟩] (by kernel_rfl) ?_
   simp(disch:=omega)only[go_sem,e1,hz]
   have e0:(0:Int)+cy=cy:=by omega
   refine⟨by omega,by omega,by omega,by omega,qb (i+1,o2.set (i+B.length) cy) [] ⟨by show i+1≤_;omega,by simp[hol2],yW hog2 hcy,?_,fun k hk=>?_⟩ (by show A.length-(i+1)<A.length-i;omega) rfl (by simp(disch:=omega)only[go_sem];try omega) (by simp(disch:=omega)only[go_sem,e0])⟩
   ·show vl (o2.set (i+B.length) cy)=vl (A.take (i+1))*vl B
    rw[Q8 (by omega),hz,jb (by omega)]
    generalize (65536:Int)^i=Pi at*
    grind
   ·show(o2.set (i+B.length) cy).getD k 0=0
    rw[List.getD_eq_getElem?_getD,List.getElem?_set_ne (by show i+B.length≠k;omega),←List.getD_eq_getElem?_getD]
    exact hoz2 k (by omega)
 ·simp(disch:=omega)only[go_sem,h1]
  have hiA:i=A.length:=by omega
  subst hiA
  rw[List.take_length,hvb,hm]at hov
  rw[←hol]
  refine qB (jo true (out) (m) (by omega) (hog) (hov)) (by simp(disch:=omega)only[go_sem]) ?_
  rintro r hs (⟨h0,rfl,rfl⟩|⟨zs,rfl,rfl⟩)
  ·refine⟨⟨by simp,by simp(disch:=omega)only[go_sem]⟩,?_⟩
   simp(disch:=omega)only[go_sem]
   refine qi [] [] [] [.ag [.v (.slice none 0 0)]] rfl (by simp(disch:=omega)only[go_sem]) (by simp(disch:=omega)only[go_sem]) (by simp) (by intro _;simp[zl,AV.pu,AV.pu.puL,Ob.pu,q8]) (.inl ⟨h0,rfl,rfl⟩)
  ·refine⟨⟨by simp,by simp(disch:=omega)only[go_sem]⟩,?_⟩
   simp(disch:=omega)only[go_sem]
   refine qi [(0,810000000)] [.own 1 (qc (lim (m)++zs))] [] [.ag [.rf 0 0 (lim (m)).length]] rfl (by simp(disch:=omega)only[go_sem]) (by simp(disch:=omega)only[go_sem]) (by simp) (by intro _;simp[zl,AV.pu,AV.pu.puL,Ob.pu,q8]) (.inr ⟨zs,rfl,rfl⟩)
theorem atu(cl:Bool)(a b:Nat)(la:(lim a).length≤1000000)(lb:(lim b).length≤1000000):Con Tryz.prog 313 cl [.ag [.sl (lim (a)).length (qc (lim (a)))],.ag [.sl (lim (b)).length (qc (lim (b)))]] [] (aF9 (a*b)):=
 Yp cl (lim a) (ze a) b la lb (a*b) (by rw[zd,Int.natCast_mul])
end Go.Ab
namespace Go.Ab
open Go Go.Proofs
def aT1(m:Nat)(r0:Int):AV→List Ob→List Ob→Prop:=fun r hs bs=>
 (m=0∧r=.tu [.ag [.v (.slice none 0 0)],.v (.int .i64 r0)]∧hs=[])∨∃zs,r=.tu [.ag [.rf 0 0 (lim m).length],.v (.int .i64 r0)]∧hs=[.own 1 (qc (lim m++zs))]
theorem Con.natF2{P:Program}{f:FuncId}{args:List AV}{m:Nat}{r0:Int}(h:Con P f false args [] (aT1 m r0)):Con P f false args [] (isA (.tu [.ag [.sl (lim (m)).length (qc (lim (m)))],.v (.int .i64 r0)])):=
 Con.frzA <| h.mono fun r hs bs h=>by
  rcases h with⟨rfl,rfl,rfl⟩|⟨zs,rfl,rfl⟩
  ·show qG _ 6 _=_
   rw[qo];rfl
  ·show qG _ 6 _=_
   rw[YC,List.map_cons,List.map_cons,List.map_nil,aeQ,List.map_cons,List.map_nil,jT (k:=2) (l:=lim m) (zs:=zs) q6 rfl]
   rfl
theorem aa9(cl:Bool)(A:List Int)(d:Nat)(hA:gd A)(lA:A.length≤1000000)(hd:0<d)(hd2:d<65536)(m:Nat)(hm:vl A/(d:Int)=(m:Int)):
  Con Tryz.prog 300 cl [.ag [.sl A.length (qc A)],.v (.int .i64 d)] [] (aT1 m (vl A % d)):=by
 refine Con.of_aw Tryz.func300 rfl Tryz.ntmps300 (by simp) (by simp) (by simp) (W.sound ?_)
 show @W Tryz.prog 42 ⟨_⟩ ⟨fun x σ=>@q9 _ _ _ ⟨_⟩ _ ⟨_⟩ x σ⟩ _ _
 simp(disch:=omega)only[go_sem]
 refine⟨by omega,?_⟩
 refine qh (fun x:Nat×List Int×Int=>[(1,.v (.int .i64 d)),(2,.pt 0 0),(4,.pt 1 0),(6,.rf 2 0 A.length),(7,.v (.int .i64 x.2.2)),(8,.v (.int .i64 ((x.1:Int)-1)))])
  (fun x=>[(0,.own 0 [.sl A.length (qc A)]),(1,.own 0 [.v (.slice none 0 0)]),(2,.own 1 (qc x.2.1))])
  (fun x=>x.1≤A.length∧x.2.1.length=A.length∧gd x.2.1∧x.2.2=vl (A.drop x.1) % d∧vl (x.2.1.drop x.1)=vl (A.drop x.1)/d)
  (fun x=>x.1) (A.length,List.replicate A.length 0,0) ⟨Nat.le_refl _,by simp,zr _,by simp[vl],by simp[vl]⟩
  (Le.lst [(0,40000000),(1,60000000),(2,150000000)] _ _ rfl (by simp(disch:=omega)only[go_sem,List.length_replicate];try omega) (by simp(disch:=omega)only[go_sem])) ?_
 rintro⟨k,out,rest⟩ ⟨hk,hol,hog,hr,hov⟩
 dsimp only at hk hol hog hr hov ⊢
 have hr0:0≤rest∧rest<d:=by rw[hr];exact⟨Int.emod_nonneg _ (by omega),Int.emod_lt_of_pos _ (by omega)⟩
 simp(disch:=omega)only[go_sem]
 refine qe (fun h1=>?_) (fun h1=>?_)
 ·obtain⟨i,rfl⟩:∃i,k=i+1:=⟨k-1,by omega⟩
  have ei:((i+1:Nat):Int)-1=(i:Nat):=by omega
  have hx:=qM hA i
  have hq6:0≤(rest*65536+A.getD i 0)/d∧(rest*65536+A.getD i 0)/d<65536:=by
   refine⟨Int.ediv_nonneg (by omega) (by omega),Int.ediv_lt_of_lt_mul (by omega) ?_⟩
   have:rest+1≤(d:Int):=by omega
   have:=Int.mul_le_mul_of_nonneg_left this (show(0:Int)≤65536 by omega)
   omega
  simp(disch:=omega)only[go_sem,h1,ei]
  generalize hq:rest*65536+A.getD i 0=q at*
  refine⟨by omega,by omega,by omega,by omega,by omega,by omega,qb (i,out.set i (q/d),q % d) [] ⟨by show i≤_;omega,by simp[hol],yW hog hq6,?_,?_⟩ (by show i<i+1;omega) rfl (by simp(disch:=omega)only[go_sem];try omega) (by simp(disch:=omega)only[go_sem])⟩
  ·show q % d=vl (A.drop i) % d
   rw[zF (l:=A) (i:=i) (by omega),←hq,hr]
   have h3:=Int.emod_add_mul_ediv (vl (A.drop (i+1))) d
   rw[show A.getD i 0+65536*vl (A.drop (i+1))=vl (A.drop (i+1)) % d*65536+A.getD i 0+d*(65536*(vl (A.drop (i+1))/d)) by grind,Int.add_mul_emod_self_left]
  ·show vl ((out.set i (q/d)).drop i)=vl (A.drop i)/d
   rw[drop_set (by omega),vl,hov,zF (l:=A) (i:=i) (by omega),←hq,hr]
   have h3:=Int.emod_add_mul_ediv (vl (A.drop (i+1))) d
   rw[show A.getD i 0+65536*vl (A.drop (i+1))=vl (A.drop (i+1)) % d*65536+A.getD i 0+d*(65536*(vl (A.drop (i+1))/d)) by grind,Int.add_mul_ediv_left _ _ (by omega)]
 ·simp(disch:=omega)only[go_sem,h1]
  have:k=0:=by omega
  subst this
  rw[List.drop_zero,List.drop_zero,hm]at hov
  rw[List.drop_zero]at hr
  rw[←hol]
  refine qB (jo true out m (by omega) hog hov) (by simp(disch:=omega)only[go_sem]) ?_
  rintro r hs (⟨h0,rfl,rfl⟩|⟨zs,rfl,rfl⟩)
  ·refine⟨⟨by simp,by simp(disch:=omega)only[go_sem]⟩,?_⟩
   simp(disch:=omega)only[go_sem]
   rw[hr]
   refine qi [] [] [] [.ag [.v (.slice none 0 0)],.v (.int .i64 (vl A % d))] rfl (by simp(disch:=omega)only[go_sem]) (by simp(disch:=omega)only[go_sem]) (by simp) (by intro _;simp[zl,AV.pu,AV.pu.puL,Ob.pu,q8]) (.inl ⟨h0,rfl,rfl⟩)
  ·refine⟨⟨by simp,by simp(disch:=omega)only[go_sem]⟩,?_⟩
   simp(disch:=omega)only[go_sem]
   rw[hr]
   refine qi [(0,420000000)] [.own 1 (qc (lim m++zs))] [] [.ag [.rf 0 0 (lim m).length],.v (.int .i64 (vl A % d))] rfl (by simp(disch:=omega)only[go_sem]) (by simp(disch:=omega)only[go_sem]) (by simp) (by intro _;simp[zl,AV.pu,AV.pu.puL,Ob.pu,q8]) (.inr ⟨zs,rfl,rfl⟩)
/-! ### Shifts-/
theorem arv{k:Nat}(hk:k<16):IntKind.i64.wrap (1*2^(min ((k:Int)).toNat 64))=((2^k:Nat):Int):=by
 have e:min ((k:Int)).toNat 64=k:=by omega
 rw[e,Int.one_mul]
 have h:=yp k hk
 rw[amz (by omega) (by omega),Int.natCast_pow];rfl
theorem att(cl:Bool)(a k:Nat)(la:(lim a).length≤400000)(hk:k≤5000000):Con Tryz.prog 276 cl [.ag [.sl (lim (a)).length (qc (lim (a)))],.v (.int .i64 k)] [] (aF9 (a*2^k)):=by
 refine Con.of_aw Tryz.func276 rfl Tryz.ntmps276 (by simp) (by simp) (by simp) (W.sound ?_)
 show @W Tryz.prog 22 ⟨_⟩ ⟨fun x σ=>@q9 _ _ _ ⟨_⟩ _ ⟨_⟩ x σ⟩ _ _
 have hz:((lim a).length:Int)=0→a=0:=fun h=>qK.1 (List.length_eq_zero_iff.1 (by omega))
 have hvA:=zd a
 have gA:=ze a
 generalize hLA:lim a=A at*
 simp(disch:=omega)only[go_sem]
 refine qe (fun h1=>?_) (fun h1=>?_)
 ·simp(disch:=omega)only[go_sem,h1]
  have h0:=hz h1
  subst h0
  refine qi [] [] [] [.ag [.v (.slice none 0 0)]] rfl (by simp(disch:=omega)only[go_sem]) (by simp(disch:=omega)only[go_sem]) (by simp) (by intro _;simp[zl,AV.pu,AV.pu.puL,Ob.pu,q8]) (.inl ⟨by simp,rfl,rfl⟩)
 ·simp(disch:=omega)only[go_sem,h1]
  refine qs rfl [⟨0,[],[]⟩,⟨1,[],[]⟩,⟨3,[],[]⟩,⟨4,[],[]⟩,⟨7,[4],[]⟩,⟨8,[4],[]⟩,⟨9,[4],[]⟩,⟨2,[4],[]⟩,⟨5,[],[]⟩,⟨6,[],[]⟩,⟨10,[],[]⟩,⟨11,[],[]⟩,⟨12,[],[]⟩] (by kernel_rfl) ?_
  have e16:((k:Int)/16).toNat=k/16:=by omega
  have e17:(k:Int) % 16=((k % 16:Nat):Int):=by omega
  have es:IntKind.i64.wrap (1*2^(min ((k:Int) % 16).toNat 64))=((2^(k % 16):Nat):Int):=by rw[e17];exact arv (by omega)
  have hp15:2^(k % 16)≤2^15:=Nat.pow_le_pow_right (by omega) (by omega)
  have ecut:(List.replicate (k/16) (0:Int)).take (k/16)=List.replicate (k/16) 0:=List.take_of_length_le (by simp)
  simp(disch:=omega)only[go_sem,e16,ecut,es]
  refine⟨by omega,by omega,by simp;omega,?_⟩
  refine qa ((Xa false (2^(k % 16)) (by omega)).natF) ?_
  simp(disch:=omega)only[go_sem]
  have hvA2:vl (List.replicate (k/16) 0++A)*((2^(k % 16):Nat):Int)=((a*2^k:Nat):Int):=by
   rw[Qg,zM,hvA,List.length_replicate]
   have h2:a*2^k=65536^(k/16)*a*2^(k % 16):=by
    have:2^k=65536^(k/16)*2^(k % 16):=by rw[ZU,←Nat.pow_add,Nat.div_add_mod]
    rw[this];grind
   rw[h2,Int.natCast_mul,Int.natCast_mul,Int.natCast_pow]
   simp
  have gA2:gd (List.replicate (k/16) 0++A):=qH.2 ⟨zr _,gA⟩
  have lA2:(List.replicate (k/16) (0:Int)++A).length=k/16+A.length:=by simp
  have et:(List.replicate (k/16) (0:Int)++A).take (k/16+A.length)=List.replicate (k/16) 0++A:=List.take_of_length_le (by simp)
  have l2s:(lim (2^(k % 16))).length≤1000000:=by
   have:=qC (m:=2^(k % 16)) (B:=16) (zB.2 (by omega));omega
  refine qB (Yp true (List.replicate (k/16) 0++A) gA2 (2^(k % 16)) (by omega) l2s (a*2^k) hvA2) (by simp(disch:=omega)only[go_sem,lA2,et]) ?_
  rintro r hs (⟨h0,rfl,rfl⟩|⟨zs,rfl,rfl⟩)
  ·refine⟨⟨by simp,by simp(disch:=omega)only[go_sem]⟩,?_⟩
   simp(disch:=omega)only[go_sem]
   refine qi [] [] [] [.ag [.v (.slice none 0 0)]] rfl (by simp(disch:=omega)only[go_sem]) (by simp(disch:=omega)only[go_sem]) (by simp) (by intro _;simp[zl,AV.pu,AV.pu.puL,Ob.pu,q8]) (.inl ⟨h0,rfl,rfl⟩)
  ·refine⟨⟨by simp,by simp(disch:=omega)only[go_sem]⟩,?_⟩
   simp(disch:=omega)only[go_sem]
   refine qi [(0,230000000)] [.own 1 (qc (lim (a*2^k)++zs))] [] [.ag [.rf 0 0 (lim (a*2^k)).length]] rfl (by simp(disch:=omega)only[go_sem]) (by simp(disch:=omega)only[go_sem]) (by simp) (by intro _;simp[zl,AV.pu,AV.pu.puL,Ob.pu,q8]) (.inr ⟨zs,rfl,rfl⟩)
end Go.Ab
namespace Go.Ab
open Go Go.Proofs
theorem ats(a k:Nat)(la:(lim a).length≤1000000)(hk:k≤100000000):Con Tryz.prog 255 false [.ag [.sl (lim (a)).length (qc (lim (a)))],.v (.int .i64 k)] [] (isA (.ag [.sl (lim (a/2^k)).length (qc (lim (a/2^k)))])):=by
 refine Con.frzA ?_
 refine Con.of_aw Tryz.func255 rfl Tryz.ntmps255 (by simp) (by simp) (by simp) (W.sound ?_)
 show @W Tryz.prog 28 ⟨_⟩ ⟨fun x σ=>@q9 _ _ _ ⟨_⟩ _ ⟨_⟩ x σ⟩ _ _
 simp(disch:=omega)only[go_sem]
 refine qe (fun h1=>?_) (fun h1=>?_)
 ·simp(disch:=omega)only[go_sem,h1]
  have h0:a/2^k=0:=by
   refine Nat.div_eq_of_lt (Nat.lt_of_lt_of_le (Z4 a) ?_)
   rw[ZU];exact Nat.pow_le_pow_right (by omega) (by omega)
  rw[h0,qo]
  exact qj
 ·simp(disch:=omega)only[go_sem,h1]
  refine qs rfl [⟨0,[],[]⟩,⟨1,[],[]⟩,⟨2,[1],[]⟩,⟨3,[1],[]⟩,⟨4,[],[]⟩,⟨5,[],[]⟩,⟨6,[1,4],[]⟩,⟨7,[1,4],[]⟩,⟨8,[1,4],[]⟩,⟨13,[1,4],[]⟩,⟨9,[],[70000000]⟩,⟨10,[],[70000000]⟩,⟨11,[],[70000000]⟩,⟨12,[],[70000000]⟩,⟨14,[],[]⟩,⟨15,[],[]⟩] (by kernel_rfl) ?_
  have e16:((k:Int)/16).toNat=k/16:=by omega
  have e17:(k:Int) % 16=((k % 16:Nat):Int):=by omega
  have e18:(((lim a).length:Int)-(k:Int)/16).toNat=((lim a).drop (k/16)).length:=by simp;omega
  have es:IntKind.i64.wrap (1*2^(min ((k:Int) % 16).toNat 64))=((2^(k % 16):Nat):Int):=by rw[e17];exact arv (by omega)
  have hp15:2^(k % 16)≤2^15:=Nat.pow_le_pow_right (by omega) (by omega)
  have hp0:0<2^(k % 16):=Nat.pow_pos (by omega)
  have hvD:=afY (ze a) (i:=k/16) (by omega)
  have gD:=yv (ze a) (k/16)
  have hlD:((lim a).drop (k/16)).length≤1000000:=by simp;omega
  have hm:vl ((lim a).drop (k/16))/((2^(k % 16):Nat):Int)=((a/2^k:Nat):Int):=by
   rw[←hvD,zd]
   have:a/2^k=a/65536^(k/16)/2^(k % 16):=by rw[Nat.div_div_eq_div_mul,ZU,←Nat.pow_add,Nat.div_add_mod]
   rw[this,Int.natCast_ediv,Int.natCast_ediv,Int.natCast_pow 65536];rfl
  have et:((lim a).drop (k/16)).take ((lim a).drop (k/16)).length=(lim a).drop (k/16):=List.take_length
  simp(disch:=omega)only[go_sem,e16,e18,et,es]
  generalize (lim a).drop (k/16)=D at*
  refine⟨by omega,by omega,?_⟩
  refine qa ((aa9 false D (2^(k % 16)) gD hlD hp0 (by omega) (a/2^k) hm).natF2) ?_
  simp(disch:=omega)only[go_sem]
  exact qj
theorem aRS(a:Nat)(la:(lim a).length≤2^40):Con Tryz.prog 289 true [.ag [.sl (lim (a)).length (qc (lim (a)))]] [] (isA (.v (.int .i64 (bl a)))):=by
 refine Con.of_aw Tryz.func289 rfl Tryz.ntmps289 (by simp) (by simp) (by simp) (W.sound ?_)
 show @W Tryz.prog 29 ⟨_⟩ ⟨fun x σ=>@q9 _ _ _ ⟨_⟩ _ ⟨_⟩ x σ⟩ _ _
 simp(disch:=omega)only[go_sem]
 refine qe (fun h1=>?_) (fun h1=>?_)
 ·simp(disch:=omega)only[go_sem,h1]
  have:a=0:=qK.1 (List.length_eq_zero_iff.1 (by omega))
  subst this
  rw[yE]
  exact qy
 ·have hm:a≠0:=fun e=>by rw[e,qo]at h1;simp at h1
  have e2:(((lim a).length:Int)-1).toNat=(lim a).length-1:=by omega
  have ht:=Z6 hm
  have hb:=at1 hm
  have eq:(lim a).getD ((lim a).length-1) 0=((a/65536^((lim a).length-1):Nat):Int):=by rw[zR,Nat.mod_eq_of_lt ht.2]
  generalize a/65536^((lim a).length-1)=q at*
  simp(disch:=omega)only[go_sem,h1,e2,eq]
  refine⟨by omega,by omega,?_⟩
  refine qh (fun x:Nat×Nat=>[(3,.v (.int .i64 x.1)),(4,.v (.int .i64 x.2))]) (fun _=>[]) (fun x=>x.1+bl x.2=bl a∧x.2<65536∧x.1≤2^45) (fun x=>x.2) (16*((lim a).length-1),q) ⟨hb.symm,ht.2,by show 16*((lim a).length-1)≤2^45;omega⟩ (Le.lst [] _ _ rfl (by simp(disch:=omega)only[go_sem];try omega) (by simp(disch:=omega)only[go_sem])) ?_
  rintro⟨n,x⟩ ⟨hn,hx,hn2⟩
  dsimp only at hn hx hn2 ⊢
  simp(disch:=omega)only[go_sem]
  refine qe (fun h2=>?_) (fun h2=>?_)
  ·simp(disch:=omega)only[go_sem,h2]
   have hd:=aJB (x:=x) (by omega)
   have hp:=zB.2 (show x<2^16 by omega)
   refine qb (n+1,x/2) [] ⟨by show n+1+bl (x/2)=bl a;omega,by show x/2<65536;omega,?_⟩ (by show x/2<x;omega) rfl (by simp(disch:=omega)only[go_sem];try omega) (by simp(disch:=omega)only[go_sem])
   show n+1≤2^45
   have:=abz (m:=a)
   omega
  ·simp(disch:=omega)only[go_sem,h2]
   have:x=0:=by omega
   subst this
   rw[yE]at hn
   refine qA (by simp(disch:=omega)only[go_sem]) (by simp(disch:=omega)only[go_sem]) ⟨?_,rfl,rfl⟩
   simp[zl];omega
theorem aba(m:Nat)(i:Int)(hl:(lim m).length≤2^40)(hi:0≤i)(hi2:i<2^62):Con Tryz.prog 190 true [.ag [.sl (lim (m)).length (qc (lim (m)))],.v (.int .i64 i)] [] (isA (.v (.int .i64 ((m/2^i.toNat % 2:Nat):Int)))):=by
 refine Con.of_w (rs:=[.tmp 4]) Tryz.func190 rfl Tryz.ntmps190 rfl ?_
 obtain⟨k,rfl⟩:=Int.eq_ofNat_of_zero_le hi
 rw[Int.toNat_natCast]
 have h0:¬((k:Int)<0):=by omega
 have e16:((k:Int)/16).toNat=k/16:=by omega
 have em:min ((k:Int) % 16).toNat 64=k % 16:=by omega
 have hb:=at2 m k
 simp(disch:=omega)only[go_sem,h0]
 refine qe (fun h1=>?_) (fun h1=>?_)
 ·simp(disch:=omega)only[go_sem,h1]
  have:m/2^k % 2=0:=by
   rw[←hb]
   have h2:=zR m (k/16)
   rw[List.getD_eq_getElem?_getD,List.getElem?_eq_none (by omega)]at h2
   have h3:m/65536^(k/16) % 65536=0:=by simp only[Option.getD_none]at h2;omega
   rw[h3];simp
  rw[this]
  exact qy
 ·have hx:=qM (ze m) (k/16)
  have hp:(0:Int)<2^(k % 16):=Int.pow_pos (by omega)
  have efd:∀x:Int,x.fdiv (2^(k % 16))=x/2^(k % 16):=fun x=>Int.fdiv_eq_ediv_of_nonneg _ (Int.le_of_lt hp)
  have hq:0≤(lim m).getD (k/16) 0/2^(k % 16)∧(lim m).getD (k/16) 0/2^(k % 16)<65536:=by
   refine⟨Int.ediv_nonneg hx.1 (Int.le_of_lt hp),Int.lt_of_le_of_lt (Int.ediv_le_self _ hx.1) hx.2⟩
  have hr:(lim m).getD (k/16) 0/2^(k % 16) % 2=((m/2^k % 2:Nat):Int):=by
   rw[←hb,zR]
   generalize m/65536^(k/16) % 65536=x
   rw[Int.natCast_emod,Int.natCast_ediv,Int.natCast_pow];rfl
  simp(disch:=omega)only[go_sem,h1,e16,em,efd,hr]
  refine⟨by omega,by omega,by omega,?_⟩
  exact qy
theorem auz{m i:Nat}(hz:∀j,j<i→m/2^j % 2=0)(h1:m/2^i % 2=1):tz m=i:=by
 have key:∀k,k≤i→2^k*(m/2^k)=m:=by
  intro k
  induction k with
  |zero=>intro _;simp
  |succ k ih=>
   intro hk
   have h2:=ih (by omega)
   have h3:=hz k (by omega)
   have h4:m/2^(k+1)=m/2^k/2:=by rw[Nat.pow_succ,Nat.div_div_eq_div_mul]
   rw[h4,Nat.pow_succ,Nat.mul_assoc,show 2*(m/2^k/2)=m/2^k by omega];exact h2
 refine QP (a:=m/2^i/2) ?_
 have:=key i (Nat.le_refl _)
 rw[show 2*(m/2^i/2)+1=m/2^i by omega];exact this.symm
theorem afw(m:Nat)(hl:(lim m).length≤2^40):Con Tryz.prog 254 true [.ag [.sl (lim (m)).length (qc (lim (m)))]] [] (isA (.v (.int .i64 (tz m)))):=by
 refine Con.of_w (rs:=[.tmp 2]) Tryz.func254 rfl Tryz.ntmps254 rfl ?_
 simp(disch:=omega)only[go_sem]
 refine qh (fun i:Nat=>[(1,.pt 0 0),(3,.v (.int .i64 i))]) (fun _=>[(0,.own 0 [.sl (lim (m)).length (qc (lim (m)))])]) (fun i=>i≤16*(lim m).length∧∀j,j<i→m/2^j % 2=0) (fun i=>16*(lim m).length-i) 0 ⟨by omega,fun j hj=>by omega⟩ (Le.lst [(0,30000000)] _ _ rfl (by simp(disch:=omega)only[go_sem];try omega) (by simp(disch:=omega)only[go_sem])) ?_
 rintro i ⟨hi,hz⟩
 simp(disch:=omega)only[go_sem]
 refine qe (fun h1=>?_) (fun h1=>?_)
 ·simp(disch:=omega)only[go_sem,h1]
  refine qn (aba m i hl (by omega) (by omega)) ?_
  simp(disch:=omega)only[go_sem]
  refine qe (fun h2=>?_) (fun h2=>?_)
  ·simp(disch:=omega)only[go_sem,h2]
   have:=auz hz (by omega)
   rw[this]
   exact qy
  ·simp(disch:=omega)only[go_sem,h2]
   refine qb (i+1) [] ⟨by omega,fun j hj=>?_⟩ (by show 16*(lim m).length-(i+1)<16*(lim m).length-i;omega) rfl (by simp(disch:=omega)only[go_sem];try omega) (by simp(disch:=omega)only[go_sem])
   rcases(by omega:j<i∨j=i)with h|h
   ·exact hz j h
   ·subst h;omega
 ·simp(disch:=omega)only[go_sem,h1]
  have hm:m=0:=by
   have h3:=abz (m:=m)
   rcases Nat.eq_zero_or_pos m with h|h
   ·exact h
   ·have h4:=jS (n:=m) (by omega)
    have h5:=(Qq (n:=m) (by omega)).1
    have:=hz (tz m) (by omega)
    omega
  subst hm
  rw[amC]
  exact qy
end Go.Ab
namespace Go.Ab
open Go Go.Proofs
theorem aUa(m:Nat):decide ((0:Int)<((lim m).length:Int))=decide (m≠0):=by
 rw[decide_eq_decide]
 exact⟨fun h e=>by rw[e,qo]at h;simp at h,fun h=>by have:=yV h;omega⟩
theorem Jv(m:Nat)(hl:(lim m).length≤2^39):Con Tryz.prog 284 false [.sl (lim (m)).length (qc (lim (m)))] [] (isA (.ag [.sl (lim (m)).length (qc (lim (m)))])):=(jo false (lim m) m hl (ze m) (zd m)).natF
theorem Ju(n:Nat)(hn:n<2^63):Con Tryz.prog 257 false [.v (.int .i64 n)] [] (isA (.ag [.sl (lim (n)).length (qc (lim (n)))])):=(Xa false n hn).natF
theorem Yr(a b:Nat)(la:(lim a).length≤2000000)(lb:(lim b).length≤2000000):Con Tryz.prog 256 false [.ag [.sl (lim (a)).length (qc (lim (a)))],.ag [.sl (lim (b)).length (qc (lim (b)))]] [] (isA (.ag [.sl (lim (a+b)).length (qc (lim (a+b)))])):=(atv false a b la lb).natF
theorem alY(a b:Nat)(la:(lim a).length≤1000000)(lb:(lim b).length≤1000000):Con Tryz.prog 313 false [.ag [.sl (lim (a)).length (qc (lim (a)))],.ag [.sl (lim (b)).length (qc (lim (b)))]] [] (isA (.ag [.sl (lim (a*b)).length (qc (lim (a*b)))])):=(atu false a b la lb).natF
theorem Yo(a k:Nat)(la:(lim a).length≤400000)(hk:k≤5000000):Con Tryz.prog 276 false [.ag [.sl (lim (a)).length (qc (lim (a)))],.v (.int .i64 k)] [] (isA (.ag [.sl (lim (a*2^k)).length (qc (lim (a*2^k)))])):=(att false a k la hk).natF
theorem zq(s:Bool)(m:Nat)(hl:(lim m).length≤2^39):Con Tryz.prog 221 false [.v (.bool s),.ag [.sl (lim (m)).length (qc (lim (m)))]] [] (isA (.ag [.v (.bool (s&&decide (m≠0))),.sl (lim (m)).length (qc (lim (m)))])):=by
 refine Con.frzA ?_
 refine Con.of_w (rs:=[.cell 4 40]) Tryz.func221 rfl Tryz.ntmps221 rfl ?_
 simp(disch:=omega)only[go_sem]
 refine qs rfl [⟨0,[],[]⟩,⟨1,[],[]⟩,⟨2,[],[]⟩,⟨3,[],[]⟩,⟨4,[],[]⟩,⟨5,[],[]⟩,⟨6,[],[]⟩,⟨7,[3],[]⟩,⟨8,[3],[]⟩,⟨9,[3],[]⟩,⟨10,[],[]⟩,⟨11,[],[]⟩] (by kernel_rfl) ?_
 simp(disch:=omega)only[go_sem]
 refine Qb (fun h1=>?_) (fun h1=>?_)
 ·simp(disch:=omega)only[go_sem,h1,aUa]
  refine qa (Jv m hl) ?_
  simp(disch:=omega)only[go_sem]
  exact qj (hp:=by simp(disch:=omega)only[go_sem,h1,Bool.true_and])
 ·simp(disch:=omega)only[go_sem,h1]
  refine qa (Jv m hl) ?_
  simp(disch:=omega)only[go_sem]
  exact qj (hp:=by simp(disch:=omega)only[go_sem,h1,Bool.false_and])
theorem Y9(n:Int)(h: -9223372036854775808≤n∧n<9223372036854775808):Con Tryz.prog 174 false [.v (.int .i64 n)] [] (isA (.ag [.v (.bool (decide (n<0))),.sl (lim (n.natAbs)).length (qc (lim (n.natAbs)))])):=by
 refine Con.frzA ?_
 refine Con.of_aw Tryz.func174 rfl Tryz.ntmps174 (by simp) (by simp) (by simp) (W.sound ?_)
 show @W Tryz.prog 15 ⟨_⟩ ⟨fun x σ=>@q9 _ _ _ ⟨_⟩ _ ⟨_⟩ x σ⟩ _ _
 simp(disch:=omega)only[go_sem]
 refine qe (fun h1=>?_) (fun h1=>?_)
 ·simp(disch:=omega)only[go_sem,h1]
  have e1:0-(n+1)=(((0-(n+1)).toNat:Nat):Int):=by omega
  refine qa (Ju (0-(n+1)).toNat (by omega)) ?_ (by simp(disch:=omega)only[go_sem,←e1])
  simp(disch:=omega)only[go_sem]
  refine qa (Ju 1 (by omega)) ?_
  simp(disch:=omega)only[go_sem]
  have l1:=qC (m:=(0-(n+1)).toNat) (B:=64) (zB.2 (by omega))
  have l2:=qC (m:=1) (B:=64) (by decide)
  refine qa (Yr (0-(n+1)).toNat 1 (by omega) (by omega)) ?_
  simp(disch:=omega)only[go_sem]
  have e2:(0-(n+1)).toNat+1=n.natAbs:=by omega
  have l3:=qC (m:=(0-(n+1)).toNat+1) (B:=64) (zB.2 (by omega))
  refine qa (zq true ((0-(n+1)).toNat+1) (by omega)) ?_
  simp(disch:=omega)only[go_sem]
  refine qO (by simp(disch:=omega)only[go_sem]) ?_
  show qG _ 6 _=_
  have e3:decide (n.natAbs≠0)=true:=by simp;omega
  rw[e2]
  simp(disch:=omega)only[go_sem,e3,h1,Bool.true_and]
 ·simp(disch:=omega)only[go_sem,h1]
  have e1:n=((n.natAbs:Nat):Int):=by omega
  refine qa (Ju n.natAbs (by omega)) ?_ (by simp(disch:=omega)only[go_sem,←e1])
  simp(disch:=omega)only[go_sem]
  have l3:=qC (m:=n.natAbs) (B:=64) (zB.2 (by omega))
  refine qa (zq false n.natAbs (by omega)) ?_
  simp(disch:=omega)only[go_sem]
  exact qj (hp:=by simp(disch:=omega)only[go_sem,h1,Bool.false_and])
theorem ato(s1:Bool)(m1:Nat)(s2:Bool)(m2:Nat)(h1:bl m1≤4000000)(h2:bl m2≤4000000):Con Tryz.prog 308 false [.ag [.v (.bool (s1)),.sl (lim (m1)).length (qc (lim (m1)))],.ag [.v (.bool (s2)),.sl (lim (m2)).length (qc (lim (m2)))]] [] (isA (.ag [.v (.bool ((s1 != s2)&&decide (m1*m2≠0))),.sl (lim (m1*m2)).length (qc (lim (m1*m2)))])):=by
 refine Con.frzA ?_
 refine Con.of_w (rs:=[.cell 4 40]) Tryz.func308 rfl Tryz.ntmps308 rfl ?_
 simp(disch:=omega)only[go_sem]
 have l1:=qC h1
 have l2:=qC h2
 refine qs rfl [⟨0,[],[]⟩,⟨1,[],[]⟩,⟨2,[1],[]⟩,⟨3,[1],[]⟩,⟨4,[],[]⟩,⟨5,[1,3],[]⟩,⟨6,[1,3],[]⟩,⟨7,[1,3,6],[]⟩,⟨8,[1,3,6],[]⟩,⟨9,[1,3],[]⟩,⟨10,[],[]⟩,⟨11,[],[]⟩] (by kernel_rfl) ?_
 simp(disch:=omega)only[go_sem]
 refine qa (alY m1 m2 (by omega) (by omega)) ?_
 simp(disch:=omega)only[go_sem]
 have l3:=qC (Nat.le_trans (QJ m1 m2) (Nat.add_le_add h1 h2))
 refine qa (zq (s1 != s2) (m1*m2) (by omega)) ?_
 simp(disch:=omega)only[go_sem]
 exact qj
theorem jP(s:Bool)(m:Nat)(e:Int)(hm:bl m≤8000000)(he: -2^40≤e∧e≤2^40):Con Tryz.prog 173 false [.ag [.v (.bool (s)),.sl (lim (m)).length (qc (lim (m)))],.v (.int .i64 e)] [] (isA (.ag [.v (.bool (oS s m)),.sl (lim (oM m)).length (qc (lim (oM m))),.v (.int .i64 (oE m e))])):=by
 refine Con.frzA ?_
 refine Con.of_aw Tryz.func173 rfl Tryz.ntmps173 (by simp) (by simp) (by simp) (W.sound ?_)
 show @W Tryz.prog 26 ⟨_⟩ ⟨fun x σ=>@q9 _ _ _ ⟨_⟩ _ ⟨_⟩ x σ⟩ _ _
 simp(disch:=omega)only[go_sem]
 have hl:=qC hm
 refine qe (fun h1=>?_) (fun h1=>?_)
 ·simp(disch:=omega)only[go_sem,h1]
  have h0:m=0:=qK.1 (List.length_eq_zero_iff.1 (by omega))
  subst h0
  refine qO (by simp(disch:=omega)only[go_sem]) ?_
  show qG _ 6 _=_
  simp only[oS,y6,oE,qo,if_true]
  simp(disch:=omega)only[go_sem]
 ·have h0:m≠0:=fun e=>h1 (by rw[e,qo];rfl)
  have ht:=jS h0
  simp(disch:=omega)only[go_sem,h1]
  refine qn (afw m (by omega)) ?_
  simp(disch:=omega)only[go_sem]
  refine qs rfl [⟨0,[],[]⟩,⟨1,[],[]⟩,⟨2,[1],[]⟩,⟨3,[1],[]⟩,⟨4,[1,3],[]⟩,⟨7,[1,3],[]⟩,⟨8,[1,3],[]⟩,⟨9,[1,3],[]⟩,⟨5,[1],[]⟩,⟨6,[],[]⟩,⟨10,[],[]⟩,⟨11,[],[]⟩] (by kernel_rfl) ?_
  simp(disch:=omega)only[go_sem]
  refine qa (ats m (tz m) (by omega) (by omega)) ?_
  simp(disch:=omega)only[go_sem]
  have l3:=qC (Nat.le_trans (Xl m (2^tz m)) hm)
  refine qa (zq s (m/2^tz m) (by omega)) ?_
  simp(disch:=omega)only[go_sem]
  refine qO (by simp(disch:=omega)only[go_sem]) ?_
  show qG _ 6 _=_
  have h3:decide (m/2^tz m≠0)=true:=by
   have:=(Qq h0).1
   simp only[decide_eq_true_eq];omega
  simp only[oS,oM,oE,if_neg h0]
  simp(disch:=omega)only[go_sem,h3,Bool.and_true]
theorem atl(s1:Bool)(m1:Nat)(e1:Int)(s2:Bool)(m2:Nat)(e2:Int)(h1:bl m1≤4000000)(h2:bl m2≤4000000)(he1: -2^39≤e1∧e1≤2^39)(he2: -2^39≤e2∧e2≤2^39):
  Con Tryz.prog 267 false [.ag [.v (.bool (s1)),.sl (lim (m1)).length (qc (lim (m1))),.v (.int .i64 (e1))],.ag [.v (.bool (s2)),.sl (lim (m2)).length (qc (lim (m2))),.v (.int .i64 (e2))]] [] (isA (.ag [.v (.bool (oS ((s1 != s2)&&decide (m1*m2≠0)) (m1*m2))),.sl (lim (oM (m1*m2))).length (qc (lim (oM (m1*m2)))),.v (.int .i64 (oE (m1*m2) (e1+e2)))])):=by
 refine Con.frzA ?_
 refine Con.of_w (rs:=[.cell 4 42]) Tryz.func267 rfl Tryz.ntmps267 rfl ?_
 simp(disch:=omega)only[go_sem]
 refine qs rfl [⟨0,[],[]⟩,⟨1,[],[]⟩,⟨2,[1],[]⟩,⟨3,[1],[]⟩,⟨5,[1,3],[]⟩,⟨6,[1,3],[]⟩,⟨7,[1,3,6],[]⟩,⟨8,[1,3,6],[]⟩,⟨9,[1,3],[]⟩,⟨4,[6,8],[]⟩,⟨10,[],[]⟩,⟨11,[],[]⟩] (by kernel_rfl) ?_
 simp(disch:=omega)only[go_sem]
 refine qa (ato s1 m1 s2 m2 h1 h2) ?_
 simp(disch:=omega)only[go_sem]
 have h3:=Nat.le_trans (QJ m1 m2) (Nat.add_le_add h1 h2)
 refine qa (jP ((s1 != s2)&&decide (m1*m2≠0)) (m1*m2) (e1+e2) (by omega) (by omega)) ?_
 simp(disch:=omega)only[go_sem]
 exact qj
end Go.Ab
namespace Go.Ab
open Go Go.Proofs
theorem Jw(a b:Nat)(la:(lim a).length≤2^40)(lb:(lim b).length≤2^40):
  Con Tryz.prog 277 true [.ag [.sl (lim (a)).length (qc (lim (a)))],.ag [.sl (lim (b)).length (qc (lim (b)))]] [] (isA (.v (.int .i64 (zH a b)))):=by
 refine Con.of_w (rs:=[.tmp 4]) Tryz.func277 rfl Tryz.ntmps277 rfl ?_
 simp(disch:=omega)only[go_sem]
 refine zG (fun h1=>?_) (fun h1=>?_)
 ·simp(disch:=omega)only[go_sem,h1]
  refine qe (fun h2=>?_) (fun h2=>?_)
  ·simp(disch:=omega)only[go_sem,h2]
   have:=Qu (a:=a) (b:=b) (by omega)
   rw[show zH (a:Int) (b:Int)= -1 by unfold zH;rw[if_pos (by omega)]]
   exact qy
  ·simp(disch:=omega)only[go_sem,h2]
   have:=Qu (a:=b) (b:=a) (by omega)
   rw[show zH (a:Int) (b:Int)=1 by unfold zH;rw[if_neg (by omega),if_pos (by omega)]]
   exact qy
 ·simp(disch:=omega)only[go_sem,h1]
  have hl:(lim a).length=(lim b).length:=by omega
  refine qh (fun k:Nat=>[(2,.pt 40000000 0),(3,.pt 50000000 0),(5,.v (.int .i64 ((k:Int)-1)))])
   (fun _=>[(40000000,.own 0 [.sl (lim (a)).length (qc (lim (a)))]),(50000000,.own 0 [.sl (lim (b)).length (qc (lim (b)))])]) (fun k=>k≤(lim a).length∧(lim a).drop k=(lim b).drop k) (fun k=>k) (lim a).length ⟨Nat.le_refl _,by rw[List.drop_length,hl,List.drop_length]⟩ (Le.lst [] _ _ rfl (by simp(disch:=omega)only[go_sem];try omega) (by simp(disch:=omega)only[go_sem])) ?_
  rintro k ⟨hk,hd⟩
  simp(disch:=omega)only[go_sem]
  refine qe (fun h2=>?_) (fun h2=>?_)
  ·obtain⟨i,rfl⟩:∃i,k=i+1:=⟨k-1,by omega⟩
   have ei:((i+1:Nat):Int)-1=(i:Nat):=by omega
   have hva:=zd a
   have hvb:=zd b
   simp(disch:=omega)only[go_sem,h2,ei]
   refine qs rfl [⟨0,[],[]⟩,⟨1,[],[]⟩,⟨2,[1],[]⟩,⟨3,[],[]⟩,⟨4,[],[]⟩,⟨5,[1,4],[]⟩,⟨6,[1,4],[]⟩,⟨7,[1,4,6],[]⟩,⟨8,[1,4],[]⟩,⟨9,[1,4],[]⟩,⟨10,[],[]⟩] (by kernel_rfl) ?_
   simp(disch:=omega)only[go_sem,ei]
   refine⟨by omega,by omega,by omega,by omega,?_⟩
   refine qe (fun h3=>?_) (fun h3=>?_)
   ·simp(disch:=omega)only[go_sem,h3]
    have:=Zr (ze a) (ze b) (by omega) hl hd h3
    rw[show zH (a:Int) (b:Int)= -1 by unfold zH;rw[if_pos (by omega)]]
    exact qy
   ·simp(disch:=omega)only[go_sem,h3]
    refine qs rfl [⟨0,[],[]⟩,⟨1,[],[]⟩,⟨2,[1],[]⟩,⟨3,[],[]⟩,⟨4,[],[]⟩,⟨5,[1,4],[]⟩,⟨6,[1,4],[]⟩,⟨7,[1,4,6],[]⟩,⟨8,[1,4],[]⟩,⟨9,[1,4],[]⟩,⟨10,[],[]⟩] (by kernel_rfl) ?_
    simp(disch:=omega)only[go_sem,ei]
    refine⟨by omega,by omega,by omega,by omega,?_⟩
    refine qe (fun h4=>?_) (fun h4=>?_)
    ·simp(disch:=omega)only[go_sem,h4]
     have:=Zr (ze b) (ze a) (by omega) hl.symm hd.symm h4
     rw[show zH (a:Int) (b:Int)=1 by unfold zH;rw[if_neg (by omega),if_pos (by omega)]]
     exact qy
    ·simp(disch:=omega)only[go_sem,h4]
     refine qb i [] ⟨by omega,?_⟩ (by show i<i+1;omega) rfl (by simp(disch:=omega)only[go_sem];try omega) (by simp(disch:=omega)only[go_sem])
     have h5:(lim a).getD i 0=(lim b).getD i 0:=by omega
     rw[yy (l:=lim a) (by omega),yy (l:=lim b) (by omega),h5,hd]
  ·simp(disch:=omega)only[go_sem,h2]
   have:k=0:=by omega
   subst this
   rw[List.drop_zero,List.drop_zero]at hd
   have:=Qa hd
   subst this
   rw[show zH (a:Int) (a:Int)=0 by simp[zH]]
   exact qy
theorem atr(cl:Bool)(a b:Nat)(hle:b≤a)(la:(lim a).length≤1000000):Con Tryz.prog 303 cl [.ag [.sl (lim (a)).length (qc (lim (a)))],.ag [.sl (lim (b)).length (qc (lim (b)))]] [] (aF9 (a-b)):=by
 have lB:(lim b).length≤(lim a).length:=Qt hle
 have hA:=ze a
 have hB:=ze b
 refine Con.of_aw Tryz.func303 rfl Tryz.ntmps303 (by simp) (by simp) (by simp) (W.sound ?_)
 show @W Tryz.prog 45 ⟨_⟩ ⟨fun x σ=>@q9 _ _ _ ⟨_⟩ _ ⟨_⟩ x σ⟩ _ _
 simp(disch:=omega)only[go_sem]
 refine qh (fun x:Nat×List Int×Int=>[(2,.pt 2 0),(3,.pt 3 0),(4,.pt 4 0),(5,.rf 1 0 x.2.1.length),(6,.v (.int .i64 x.2.2)),(7,.v (.int .i64 x.1))])
  (fun x=>[(1,.own 1 (qc x.2.1)),(2,.own 0 [.sl (lim (a)).length (qc (lim (a)))]),(3,.own 0 [.sl (lim (b)).length (qc (lim (b)))]),(4,.own 0 [.v (.slice none 0 0)])])
  (fun x=>x.1≤(lim a).length∧x.2.1.length=x.1∧gd x.2.1∧(0≤x.2.2∧x.2.2≤1)∧vl x.2.1-65536^x.1*x.2.2=vl ((lim a).take x.1)-vl ((lim b).take x.1))
  (fun x=>(lim a).length-x.1) (0,[],0) ⟨by simp,rfl,Jd,by simp,by simp[vl]⟩
  ((Le.ghost 5 1 1 (by simp(disch:=omega)only[go_sem]) (by simp(disch:=omega)only[go_sem])).trans (Le.lst [(2,40000000),(3,50000000),(4,60000000)] _ _ rfl (by simp(disch:=omega)only[go_sem]) (by simp(disch:=omega)only[go_sem]))) ?_
 rintro⟨i,out,bo⟩ ⟨hi,hol,hog,hbo,hov⟩
 dsimp only at hi hol hog hbo hov ⊢
 simp(disch:=omega)only[go_sem]
 refine qe (fun h1=>?_) (fun h1=>?_)
 ·have hx:=qM hA i
  have hy:=qM hB i
  have hstep:∀z b':Int,(lim a).getD i 0-bo-(lim b).getD i 0=z-65536*b'→vl (out++[z])-65536^(i+1)*b'=vl ((lim a).take (i+1))-vl ((lim b).take (i+1)):=by
   intro z b' hz
   rw[jp,qU,qU,hol,Int.pow_succ]
   generalize (65536:Int)^i=Pi at*
   grind
  have hyz:¬i<(lim b).length→(lim b).getD i 0=0:=fun h=>by rw[List.getD_eq_getElem?_getD,List.getElem?_eq_none (by omega)];rfl
  simp(disch:=omega)only[go_sem,h1]
  refine⟨by omega,by omega,qe (fun h2=>?_) (fun h2=>?_)⟩
  ·simp(disch:=omega)only[go_sem,h2]
   refine⟨by omega,by omega,qe (fun h3=>?_) (fun h3=>?_)⟩
   ·simp(disch:=omega)only[go_sem,h3]
    refine⟨by omega,qb (i+1,out++[(lim a).getD i 0-bo-(lim b).getD i 0+65536],1) [(1,440000000)] ⟨by show i+1≤_;omega,by simp[hol],qH.2 ⟨hog,zT.2 (by omega)⟩,by simp,hstep ((lim a).getD i 0-bo-(lim b).getD i 0+65536) 1 (by omega)⟩ (by show(lim a).length-(i+1)<(lim a).length-i;omega) rfl (by simp(disch:=omega)only[go_sem,List.length_append];try omega) (by simp(disch:=omega)only[go_sem])⟩
   ·simp(disch:=omega)only[go_sem,h3]
    refine⟨by omega,qb (i+1,out++[(lim a).getD i 0-bo-(lim b).getD i 0],0) [(1,440000000)] ⟨by show i+1≤_;omega,by simp[hol],qH.2 ⟨hog,zT.2 (by omega)⟩,by simp,hstep ((lim a).getD i 0-bo-(lim b).getD i 0) 0 (by omega)⟩ (by show(lim a).length-(i+1)<(lim a).length-i;omega) rfl (by simp(disch:=omega)only[go_sem,List.length_append];try omega) (by simp(disch:=omega)only[go_sem])⟩
  ·simp(disch:=omega)only[go_sem,h2]
   refine qe (fun h3=>?_) (fun h3=>?_)
   ·simp(disch:=omega)only[go_sem,h3]
    have hy0:=hyz (by omega)
    refine⟨by omega,qb (i+1,out++[(lim a).getD i 0-bo+65536],1) [(1,440000000)] ⟨by show i+1≤_;omega,by simp[hol],qH.2 ⟨hog,zT.2 (by omega)⟩,by simp,hstep ((lim a).getD i 0-bo+65536) 1 (by omega)⟩ (by show(lim a).length-(i+1)<(lim a).length-i;omega) rfl (by simp(disch:=omega)only[go_sem,List.length_append];try omega) (by simp(disch:=omega)only[go_sem])⟩
   ·simp(disch:=omega)only[go_sem,h3]
    have hy0:=hyz (by omega)
    refine⟨by omega,qb (i+1,out++[(lim a).getD i 0-bo],0) [(1,440000000)] ⟨by show i+1≤_;omega,by simp[hol],qH.2 ⟨hog,zT.2 (by omega)⟩,by simp,hstep ((lim a).getD i 0-bo) 0 (by omega)⟩ (by show(lim a).length-(i+1)<(lim a).length-i;omega) rfl (by simp(disch:=omega)only[go_sem,List.length_append];try omega) (by simp(disch:=omega)only[go_sem])⟩
 ·simp(disch:=omega)only[go_sem,h1]
  have hiA:i=(lim a).length:=by omega
  subst hiA
  rw[List.take_length,List.take_of_length_le lB]at hov
  have hva:=zd a
  have hvb:=zd b
  have hb0:bo=0:=by
   have h2:=QN hog
   rw[hol]at h2
   rcases(by omega:bo=0∨bo=1)with h|h
   ·exact h
   ·subst h;omega
  subst hb0
  have hov2:vl out=((a-b:Nat):Int):=by omega
  refine qB (jo true out (a-b) (by omega) hog hov2) (by simp(disch:=omega)only[go_sem]) ?_
  rintro r hs (⟨h0,rfl,rfl⟩|⟨zs,rfl,rfl⟩)
  ·refine⟨⟨by simp,by simp(disch:=omega)only[go_sem]⟩,?_⟩
   simp(disch:=omega)only[go_sem]
   refine qi [] [] [] [.ag [.v (.slice none 0 0)]] rfl (by simp(disch:=omega)only[go_sem]) (by simp(disch:=omega)only[go_sem]) (by simp) (by intro _;simp[zl,AV.pu,AV.pu.puL,Ob.pu,q8]) (.inl ⟨h0,rfl,rfl⟩)
  ·refine⟨⟨by simp,by simp(disch:=omega)only[go_sem]⟩,?_⟩
   simp(disch:=omega)only[go_sem]
   refine qi [(0,460000000)] [.own 1 (qc (lim (a-b)++zs))] [] [.ag [.rf 0 0 (lim (a-b)).length]] rfl (by simp(disch:=omega)only[go_sem]) (by simp(disch:=omega)only[go_sem]) (by simp) (by intro _;simp[zl,AV.pu,AV.pu.puL,Ob.pu,q8]) (.inr ⟨zs,rfl,rfl⟩)
end Go.Ab
namespace Go.Ab
open Go Go.Proofs
theorem Yn(a b:Nat)(hle:b≤a)(la:(lim a).length≤1000000):Con Tryz.prog 303 false [.ag [.sl (lim (a)).length (qc (lim (a)))],.ag [.sl (lim (b)).length (qc (lim (b)))]] [] (isA (.ag [.sl (lim (a-b)).length (qc (lim (a-b)))])):=(atr false a b hle la).natF
theorem atq(s1:Bool)(m1:Nat)(s2:Bool)(m2:Nat)(h1:bl m1≤6000000)(h2:bl m2≤6000000):
  Con Tryz.prog 262 false [.ag [.v (.bool (s1)),.sl (lim (m1)).length (qc (lim (m1)))],.ag [.v (.bool (s2)),.sl (lim (m2)).length (qc (lim (m2)))]] [] (isA (.ag [.v (.bool (suS s1 m1 s2 m2)),.sl (lim (suM s1 m1 s2 m2)).length (qc (lim (suM s1 m1 s2 m2)))])):=by
 refine Con.frzA ?_
 have l1:=qC h1
 have l2:=qC h2
 have hge:(0≤zH (m1:Int) (m2:Int))↔m2≤m1:=by rw[atK.2.2];omega
 have hb:=agI (s1:=s1) (s2:=s2) h1 h2
 have l3:=qC hb
 rw[←arw]
 refine Con.of_w (rs:=[.cell 4 40]) Tryz.func262 rfl Tryz.ntmps262 rfl ?_
 simp(disch:=omega)only[go_sem]
 refine Qb (fun c1=>?_) (fun c1=>?_)
 ·have c1':s1=s2:=by simpa using c1
  simp(disch:=omega)only[go_sem,c1]
  subst c1'
  rw[af9,af8]at*
  refine qs rfl [⟨0,[],[]⟩,⟨1,[],[]⟩,⟨2,[1],[]⟩,⟨3,[1],[]⟩,⟨4,[1,3],[]⟩,⟨5,[1,3],[]⟩,⟨6,[1],[]⟩,⟨7,[],[]⟩,⟨8,[],[]⟩] (by kernel_rfl) ?_
  simp(disch:=omega)only[go_sem]
  refine qa (Yr m1 m2 (by omega) (by omega)) ?_
  simp(disch:=omega)only[go_sem]
  refine qa (zq s1 (m1+m2) (by omega)) ?_
  simp(disch:=omega)only[go_sem]
  exact qj
 ·have c1':s1≠s2:=by simpa using c1
  simp(disch:=omega)only[go_sem,c1]
  refine qn (Jw m1 m2 (by omega) (by omega)) ?_
  simp(disch:=omega)only[go_sem]
  refine qe (fun c2=>?_) (fun c2=>?_)
  ·have c2':m2≤m1:=hge.1 (by omega)
   rw[aI7 c1' c2',aI0 c1' c2']at*
   simp(disch:=omega)only[go_sem,c2]
   refine qs rfl [⟨0,[],[]⟩,⟨1,[],[]⟩,⟨2,[1],[]⟩,⟨3,[1],[]⟩,⟨4,[1,3],[]⟩,⟨5,[1,3],[]⟩,⟨6,[1],[]⟩,⟨7,[],[]⟩,⟨8,[],[]⟩] (by kernel_rfl) ?_
   simp(disch:=omega)only[go_sem]
   refine qa (Yn m1 m2 c2' (by omega)) ?_
   simp(disch:=omega)only[go_sem]
   refine qa (zq s1 (m1-m2) (by omega)) ?_
   simp(disch:=omega)only[go_sem]
   exact qj
  ·have c2':¬m2≤m1:=fun h=>c2 (by have:=hge.2 h;omega)
   rw[aI6 c1' c2',aIZ c1' c2']at*
   simp(disch:=omega)only[go_sem,c2]
   refine qs rfl [⟨0,[],[]⟩,⟨1,[],[]⟩,⟨2,[1],[]⟩,⟨3,[1],[]⟩,⟨4,[1,3],[]⟩,⟨5,[1,3],[]⟩,⟨6,[1],[]⟩,⟨7,[],[]⟩,⟨8,[],[]⟩] (by kernel_rfl) ?_
   simp(disch:=omega)only[go_sem]
   refine qa (Yn m2 m1 (by omega) (by omega)) ?_
   simp(disch:=omega)only[go_sem]
   refine qa (zq s2 (m2-m1) (by omega)) ?_
   simp(disch:=omega)only[go_sem]
   exact qj
def alF(m1:Nat)(e1:Int)(m2:Nat)(e2:Int):Int:=if m1=0 then e2 else if m2=0 then e1 else if e1≤e2 then e1 else e2
theorem aZu(m1:Nat)(e1:Int)(m2:Nat)(e2:Int)(h:¬(m1=0∧m2=0)):alF m1 e1 m2 e2=alE m1 e1 m2 e2:=by
 unfold alF alE
 repeat' split
 all_goals omega
theorem Jt(s1:Bool)(m1:Nat)(e1:Int)(s2:Bool)(m2:Nat)(e2:Int)(h1:bl m1≤4000000)(h2:bl m2≤4000000)(he1: -1000000≤e1∧e1≤1000000)(he2: -1000000≤e2∧e2≤1000000)(z1:m1=0→s1=false)(z2:m2=0→s2=false):
  Con Tryz.prog 209 false [.ag [.v (.bool (s1)),.sl (lim (m1)).length (qc (lim (m1))),.v (.int .i64 (e1))],.ag [.v (.bool (s2)),.sl (lim (m2)).length (qc (lim (m2))),.v (.int .i64 (e2))]] [] (isA (.tu [.ag [.v (.bool (s1)),.sl (lim (alA m1 e1 (alE m1 e1 m2 e2))).length (qc (lim (alA m1 e1 (alE m1 e1 m2 e2))))],.ag [.v (.bool (s2)),.sl (lim (alA m2 e2 (alE m1 e1 m2 e2))).length (qc (lim (alA m2 e2 (alE m1 e1 m2 e2))))],.v (.int .i64 (alF m1 e1 m2 e2))])):=by
 refine Con.frzA ?_
 have l1:=qC h1
 have l2:=qC h2
 refine Con.of_aw Tryz.func209 rfl Tryz.ntmps209 (by simp) (by simp) (by simp) (W.sound ?_)
 show @W Tryz.prog 70 ⟨_⟩ ⟨fun x σ=>@q9 _ _ _ ⟨_⟩ _ ⟨_⟩ x σ⟩ _ _
 simp(disch:=omega)only[go_sem]
 refine qe (fun c1=>?_) (fun c1=>?_)
 ·have y1:m1=0:=qK.1 (List.length_eq_zero_iff.1 (by omega))
  have eF:alF m1 e1 m2 e2=e2:=by unfold alF;rw[if_pos y1]
  have a1:alA m1 e1 (alE m1 e1 m2 e2)=m1:=by rw[y1];unfold alA;rw[Nat.zero_mul]
  have a2:alA m2 e2 (alE m1 e1 m2 e2)=m2:=by
   by_cases y2:m2=0
   ·rw[y2];unfold alA;rw[Nat.zero_mul]
   ·unfold alA alE;rw[if_neg y2,if_pos y1,Int.sub_self];simp
  simp(disch:=omega)only[go_sem,c1]
  refine qs rfl [⟨0,[],[]⟩,⟨1,[],[]⟩,⟨2,[1],[]⟩,⟨3,[1],[]⟩,⟨4,[1,3],[]⟩,⟨5,[1,3],[]⟩,⟨6,[3,5],[]⟩,⟨7,[5],[]⟩,⟨8,[],[]⟩] (by kernel_rfl) ?_
  simp(disch:=omega)only[go_sem]
  refine qO (by simp(disch:=omega)only[go_sem]) ?_
  show qG _ 6 _=_
  rw[eF,a1,a2]
  simp(disch:=omega)only[go_sem]
 ·have y1:m1≠0:=fun e=>c1 (by rw[e,qo];rfl)
  simp(disch:=omega)only[go_sem,c1]
  refine qe (fun c2=>?_) (fun c2=>?_)
  ·have y2:m2=0:=qK.1 (List.length_eq_zero_iff.1 (by omega))
   have eF:alF m1 e1 m2 e2=e1:=by unfold alF;rw[if_neg y1,if_pos y2]
   have a1:alA m1 e1 (alE m1 e1 m2 e2)=m1:=by unfold alA alE;rw[if_pos y2,Int.sub_self];simp
   have a2:alA m2 e2 (alE m1 e1 m2 e2)=m2:=by rw[y2];unfold alA;rw[Nat.zero_mul]
   simp(disch:=omega)only[go_sem,c2]
   refine qs rfl [⟨0,[],[]⟩,⟨1,[],[]⟩,⟨2,[1],[]⟩,⟨3,[1],[]⟩,⟨4,[1,3],[]⟩,⟨5,[1,3],[]⟩,⟨6,[3,5],[]⟩,⟨7,[5],[]⟩,⟨8,[],[]⟩] (by kernel_rfl) ?_
   simp(disch:=omega)only[go_sem]
   refine qO (by simp(disch:=omega)only[go_sem]) ?_
   show qG _ 6 _=_
   rw[eF,a1,a2]
   simp(disch:=omega)only[go_sem]
  ·have y2:m2≠0:=fun e=>c2 (by rw[e,qo];rfl)
   simp(disch:=omega)only[go_sem,c2]
   refine qe (fun c3=>?_) (fun c3=>?_)
   ·have eF:alF m1 e1 m2 e2=e1:=by unfold alF;rw[if_neg y1,if_neg y2,if_pos c3]
    have eE:alE m1 e1 m2 e2=e1:=by unfold alE;rw[if_neg y2,if_neg y1,if_neg (by omega)]
    have a1:alA m1 e1 (alE m1 e1 m2 e2)=m1:=by rw[eE];unfold alA;rw[Int.sub_self];simp
    have ek:e2-e1=(((e2-e1).toNat:Nat):Int):=by omega
    have hb:bl (m2*2^(e2-e1).toNat)≤6000000:=by have:=JV m2 (e2-e1).toNat;omega
    have l3:=qC hb
    have hn:m2*2^(e2-e1).toNat≠0:=Nat.mul_ne_zero y2 (Nat.pos_iff_ne_zero.1 (Nat.pow_pos (by omega)))
    have hd:decide (m2*2^(e2-e1).toNat≠0)=true:=decide_eq_true hn
    simp(disch:=omega)only[go_sem,c3]
    refine qs rfl [⟨0,[],[]⟩,⟨1,[],[]⟩,⟨2,[1],[]⟩,⟨3,[1],[]⟩,⟨4,[1],[]⟩,⟨5,[1,4],[]⟩,⟨6,[1,4],[]⟩,⟨7,[1,4],[]⟩,⟨8,[1,4,7],[]⟩,⟨9,[1,4,7],[]⟩,⟨10,[1,4,7,9],[]⟩,⟨11,[1,4,7,9],[]⟩,⟨12,[1,4,7],[]⟩,⟨15,[1,4,7,9,11],[]⟩,⟨16,[1,4,7,9,11],[]⟩,⟨13,[1,4,16],[]⟩,⟨14,[1,16],[]⟩,⟨17,[16],[]⟩,⟨18,[16],[]⟩,⟨19,[],[]⟩] (by kernel_rfl) ?_
    simp(disch:=omega)only[go_sem]
    refine zb (Yo m2 (e2-e1).toNat (by omega) (by omega)) (by simp(disch:=omega)only[go_sem,←ek]) ?_
    rintro r hs ⟨rfl,rfl,_⟩
    refine⟨by simp[qT],?_⟩
    simp(disch:=omega)only[go_sem]
    refine qa (zq s2 (m2*2^(e2-e1).toNat) (by omega)) ?_
    simp(disch:=omega)only[go_sem]
    refine qO (by simp(disch:=omega)only[go_sem]) ?_
    show qG _ 6 _=_
    rw[eF,a1,eE,hd];unfold alA
    simp(disch:=omega)only[go_sem,Bool.and_true]
   ·have eF:alF m1 e1 m2 e2=e2:=by unfold alF;rw[if_neg y1,if_neg y2,if_neg c3]
    have eE:alE m1 e1 m2 e2=e2:=by unfold alE;rw[if_neg y2,if_neg y1,if_pos (by omega)]
    have a2:alA m2 e2 (alE m1 e1 m2 e2)=m2:=by rw[eE];unfold alA;rw[Int.sub_self];simp
    have ek:e1-e2=(((e1-e2).toNat:Nat):Int):=by omega
    have hb:bl (m1*2^(e1-e2).toNat)≤6000000:=by have:=JV m1 (e1-e2).toNat;omega
    have l3:=qC hb
    have hn:m1*2^(e1-e2).toNat≠0:=Nat.mul_ne_zero y1 (Nat.pos_iff_ne_zero.1 (Nat.pow_pos (by omega)))
    have hd:decide (m1*2^(e1-e2).toNat≠0)=true:=decide_eq_true hn
    simp(disch:=omega)only[go_sem,c3]
    refine qs rfl [⟨0,[],[]⟩,⟨1,[],[]⟩,⟨2,[],[]⟩,⟨3,[2],[]⟩,⟨4,[2],[]⟩,⟨5,[2],[]⟩,⟨6,[2,5],[]⟩,⟨7,[2,5],[]⟩,⟨8,[2,5,7],[]⟩,⟨9,[2,5,7],[]⟩,⟨10,[2,5],[]⟩,⟨13,[2,5,7,9],[]⟩,⟨14,[2,5,7,9],[]⟩,⟨15,[2,5,7,9,14],[]⟩,⟨16,[2,5,7,9,14],[]⟩,⟨11,[2,14,16],[]⟩,⟨12,[14,16],[]⟩,⟨17,[14,16],[]⟩,⟨18,[16],[]⟩,⟨19,[],[]⟩] (by kernel_rfl) ?_
    simp(disch:=omega)only[go_sem]
    refine zb (Yo m1 (e1-e2).toNat (by omega) (by omega)) (by simp(disch:=omega)only[go_sem,←ek]) ?_
    rintro r hs ⟨rfl,rfl,_⟩
    refine⟨by simp[qT],?_⟩
    simp(disch:=omega)only[go_sem]
    refine qa (zq s1 (m1*2^(e1-e2).toNat) (by omega)) ?_
    simp(disch:=omega)only[go_sem]
    refine qO (by simp(disch:=omega)only[go_sem]) ?_
    show qG _ 6 _=_
    rw[eF,a2,eE,hd];unfold alA
    simp(disch:=omega)only[go_sem,Bool.and_true]
theorem atn(s1:Bool)(m1:Nat)(e1:Int)(s2:Bool)(m2:Nat)(e2:Int)(h1:bl m1≤4000000)(h2:bl m2≤4000000)(he1: -1000000≤e1∧e1≤1000000)(he2: -1000000≤e2∧e2≤1000000)(z1:m1=0→s1=false)(z2:m2=0→s2=false):
  Con Tryz.prog 181 false [.ag [.v (.bool (s1)),.sl (lim (m1)).length (qc (lim (m1))),.v (.int .i64 (e1))],.ag [.v (.bool (s2)),.sl (lim (m2)).length (qc (lim (m2))),.v (.int .i64 (e2))]] [] (isA (.ag [.v (.bool (oS (adS s1 m1 e1 s2 m2 e2) (adM s1 m1 e1 s2 m2 e2))),.sl (lim (oM (adM s1 m1 e1 s2 m2 e2))).length (qc (lim (oM (adM s1 m1 e1 s2 m2 e2)))),.v (.int .i64 (oE (adM s1 m1 e1 s2 m2 e2) (alE m1 e1 m2 e2)))])):=by
 refine Con.frzA ?_
 have hE:=QK (m1:=m1) (m2:=m2) he1.1 he2.1
 have b1:=Zh (e:=e1) (E:=alE m1 e1 m2 e2) (C:=2000000) h1 (by omega)
 have b2:=Zh (e:=e2) (E:=alE m1 e1 m2 e2) (C:=2000000) h2 (by omega)
 have hF: -1000000≤alF m1 e1 m2 e2∧alF m1 e1 m2 e2≤1000000:=by
  unfold alF
  repeat' split
  all_goals omega
 have hX:oE (adM s1 m1 e1 s2 m2 e2) (alE m1 e1 m2 e2)=oE (adM s1 m1 e1 s2 m2 e2) (alF m1 e1 m2 e2):=by
  by_cases h:m1=0∧m2=0
  ·have:adM s1 m1 e1 s2 m2 e2=0:=by rw[h.1,h.2];unfold adM alA;rw[Nat.zero_mul,Nat.zero_mul];unfold suM;rw[yn,yn];rfl
   rw[this];rfl
  ·rw[aZu _ _ _ _ h]
 rw[hX]
 have l1:=qC h1
 have l2:=qC h2
 refine Con.of_w (rs:=[.cell 4 42]) Tryz.func181 rfl Tryz.ntmps181 rfl ?_
 simp(disch:=omega)only[go_sem]
 refine qa (Jt s1 m1 e1 s2 m2 e2 h1 h2 he1 he2 z1 z2) ?_
 simp(disch:=omega)only[go_sem]
 unfold adS adM
 generalize alA m1 e1 (alE m1 e1 m2 e2)=A at*
 generalize alA m2 e2 (alE m1 e1 m2 e2)=B at*
 generalize alF m1 e1 m2 e2=E at*
 refine qa (atq s1 A s2 B (by omega) (by omega)) ?_
 simp(disch:=omega)only[go_sem]
 have hb:=agI (s1:=s1) (s2:=s2) b1 b2
 refine qa (jP (suS s1 A s2 B) (suM s1 A s2 B) E (by omega) (by omega)) ?_
 simp(disch:=omega)only[go_sem]
 exact qj
end Go.Ab
namespace Go.Ab
open Go Go.Proofs
def srM(s:Bool)(m:Nat)(e low mode:Int):Nat:=oM (roM s m e low mode)
def srE(s:Bool)(m:Nat)(e low mode:Int):Int:=if low≤e∨m=0 then e else oE (roM s m e low mode) low
end Go.Ab
namespace Go.Ab
open Go Go.Proofs
end Go.Ab
namespace Go.Ab
open Go Go.Proofs
theorem alM(xs:List Int)(hl:xs.length≤2^40):Con Tryz.prog 253 true [.ag [.sl xs.length (qc xs)]] [] (isA (.v (.bool (YJ xs)))):=by
 refine Con.of_aw Tryz.func253 rfl Tryz.ntmps253 (by simp) (by simp) (by simp) (W.sound ?_)
 show @W Tryz.prog 44 ⟨_⟩ ⟨fun x σ=>@q9 _ _ _ ⟨_⟩ _ ⟨_⟩ x σ⟩ _ _
 simp(disch:=omega)only[go_sem]
 refine qe (fun h1=>?_) (fun h1=>?_)
 ·simp(disch:=omega)only[go_sem,h1]
  refine qA (by simp(disch:=omega)only[go_sem]) (by simp(disch:=omega)only[go_sem]) ⟨?_,rfl,rfl⟩
  have:¬(xs.length≤100):=by omega
  simp[zl,YJ,this]
 ·simp(disch:=omega)only[go_sem,h1]
  refine qh (fun i:Nat=>[(1,.pt 30000000 0),(2,.v (.bool false)),(3,.v (.int .i64 i))]) (fun _=>[(30000000,.own 0 [.sl xs.length (qc xs)])]) (fun i=>i≤xs.length∧∀x∈xs.take i,0≤x∧x≤65535) (fun i=>xs.length-i) 0 ⟨by omega,by simp⟩
   (Le.lst [] _ _ rfl (by simp(disch:=omega)only[go_sem]) (by simp(disch:=omega)only[go_sem])) ?_
  rintro i ⟨hi,hx⟩
  simp(disch:=omega)only[go_sem]
  refine qe (fun h2=>?_) (fun h2=>?_)
  ·simp(disch:=omega)only[go_sem,h2]
   have hmem:xs.getD i 0∈xs:=by
    rw[List.getD_eq_getElem?_getD,List.getElem?_eq_getElem (by omega)];exact List.getElem_mem _
   have bad:¬(0≤xs.getD i 0∧xs.getD i 0≤65535)→YJ xs=false:=by
    intro hc
    unfold YJ
    have:xs.all (fun x=>decide (0≤x)&&decide (x≤65535))=false:=by
     rw[List.all_eq_false]
     refine⟨_,hmem,?_⟩
     simp only[Bool.and_eq_true,decide_eq_true_eq];exact hc
    rw[this];simp
   refine⟨by omega,by omega,?_⟩
   refine zG (fun h3=>?_) (fun h3=>?_)
   ·simp(disch:=omega)only[go_sem,h3]
    refine⟨by omega,by omega,?_⟩
    refine qe (fun h4=>?_) (fun h4=>?_)
    ·simp(disch:=omega)only[go_sem,h4]
     rw[bad (by omega)]
     exact qy
    ·simp(disch:=omega)only[go_sem,h4]
     refine qb (i+1) [] ⟨by omega,?_⟩ (by show xs.length-(i+1)<xs.length-i;omega) rfl (by simp(disch:=omega)only[go_sem];try omega) (by simp(disch:=omega)only[go_sem])
     intro x hxx
     rw[List.take_add_one]at hxx
     rcases List.mem_append.1 hxx with h|h
     ·exact hx x h
     ·rw[List.getElem?_eq_getElem (by omega)]at h
      simp at h
      rw[List.getD_eq_getElem?_getD,List.getElem?_eq_getElem (by omega)]at h3 h4
      simp at h3 h4
      subst h
      omega
   ·simp(disch:=omega)only[go_sem,h3]
    rw[bad (by omega)]
    exact qy
  ·have:i=xs.length:=by omega
   subst this
   rw[List.take_length]at hx
   have hall:xs.all (fun x=>decide (0≤x)&&decide (x≤65535))=true:=by
    rw[List.all_eq_true]
    intro x h;have:=hx x h;simp only[Bool.and_eq_true,decide_eq_true_eq];exact this
   have e1:decide (xs.length≤100)=true:=by simp;omega
   simp(disch:=omega)only[go_sem,h2]
   refine zG (fun h3=>?_) (fun h3=>?_)
   ·have en:((xs.length:Int)-1).toNat=xs.length-1:=by omega
    have hmem:xs.getD (xs.length-1) 0∈xs:=by
     rw[List.getD_eq_getElem?_getD,List.getElem?_eq_getElem (by omega)];exact List.getElem_mem _
    have hp:=hx _ hmem
    simp(disch:=omega)only[go_sem,h3,en]
    refine⟨by omega,by omega,?_⟩
    refine qA (by simp(disch:=omega)only[go_sem]) (by simp(disch:=omega)only[go_sem]) ⟨?_,rfl,rfl⟩
    have e2:decide (xs.length=0)=false:=by simp;intro h;subst h;simp at h3
    show AV.v (.bool _)=AV.v (.bool _)
    unfold YJ
    rw[e1,hall,e2,Bool.false_or,Bool.true_and,Bool.true_and]
    congr 2
    rw[decide_eq_decide]
    omega
   ·simp(disch:=omega)only[go_sem,h3]
    refine qA (by simp(disch:=omega)only[go_sem]) (by simp(disch:=omega)only[go_sem]) ⟨?_,rfl,rfl⟩
    have e2:decide (xs.length=0)=true:=by simp;exact List.length_eq_zero_iff.1 (by omega)
    show AV.v (.bool _)=AV.v (.bool _)
    unfold YJ
    rw[e1,hall,e2]
    simp
theorem Ze(s:Bool)(xs:List Int)(hl:xs.length≤2^40):Con Tryz.prog 170 true [.ag [.v (.bool s),.sl xs.length (qc xs)]] [] (isA (.v (.bool (zP s xs)))):=by
 refine Con.of_aw Tryz.func170 rfl Tryz.ntmps170 (by simp) (by simp) (by simp) (W.sound ?_)
 show @W Tryz.prog 18 ⟨_⟩ ⟨fun x σ=>@q9 _ _ _ ⟨_⟩ _ ⟨_⟩ x σ⟩ _ _
 simp(disch:=omega)only[go_sem]
 refine qn (alM xs hl) ?_
 simp(disch:=omega)only[go_sem]
 refine Qb (fun h1=>?_) (fun h1=>?_)
 ·simp(disch:=omega)only[go_sem,h1]
  cases s
  ·simp(disch:=omega)only[go_sem]
   refine qA (by simp(disch:=omega)only[go_sem]) (by simp(disch:=omega)only[go_sem]) ⟨?_,rfl,rfl⟩
   simp[zl,zP,h1]
  ·simp(disch:=omega)only[go_sem]
   refine qA (by simp(disch:=omega)only[go_sem]) (by simp(disch:=omega)only[go_sem]) ⟨?_,rfl,rfl⟩
   show AV.v (.bool _)=AV.v (.bool _)
   unfold zP
   rw[h1,Bool.true_and,Bool.true_and,←decide_not]
   congr 2
   rw[decide_eq_decide]
   omega
 ·simp(disch:=omega)only[go_sem,h1]
  refine qA (by simp(disch:=omega)only[go_sem]) (by simp(disch:=omega)only[go_sem]) ⟨?_,rfl,rfl⟩
  simp[zl,zP,h1]
theorem yC(s:Bool)(xs:List Int)(e:Int)(hl:xs.length≤2^40):Con Tryz.prog 93 true [.ag [.v (.bool s),.sl xs.length (qc xs),.v (.int .i64 e)]] [] (isA (.v (.bool (dyB s xs e)))):=by
 refine Con.of_aw Tryz.func93 rfl Tryz.ntmps93 (by simp) (by simp) (by simp) (W.sound ?_)
 show @W Tryz.prog 31 ⟨_⟩ ⟨fun x σ=>@q9 _ _ _ ⟨_⟩ _ ⟨_⟩ x σ⟩ _ _
 simp(disch:=omega)only[go_sem]
 refine qn (Ze s xs hl) ?_
 simp(disch:=omega)only[go_sem]
 refine Qb (fun hw=>?_) (fun hw=>?_)
 ·have h1:=hw
  simp only[zP,Bool.and_eq_true]at h1
  obtain⟨hx,hll⟩:=Zw h1.1
  have hxs:xs=lim (vl xs).toNat:=hx
  generalize hm:(vl xs).toNat=m at*
  subst hx
  simp(disch:=omega)only[go_sem,hw]
  refine zG (fun h2=>?_) (fun h2=>?_)
  ·simp(disch:=omega)only[go_sem,h2]
   refine qe (fun h3=>?_) (fun h3=>?_)
   ·simp(disch:=omega)only[go_sem,h3]
    refine qA (by simp(disch:=omega)only[go_sem]) (by simp(disch:=omega)only[go_sem]) ⟨?_,rfl,rfl⟩
    have a2:¬e≤3000:=by omega
    simp[zl,dyB,a2]
   ·simp(disch:=omega)only[go_sem,h3]
    refine qe (fun h4=>?_) (fun h4=>?_)
    ·simp(disch:=omega)only[go_sem,h4]
     have h0:m=0:=qK.1 (List.length_eq_zero_iff.1 (by omega))
     refine qA (by simp(disch:=omega)only[go_sem]) (by simp(disch:=omega)only[go_sem]) ⟨?_,rfl,rfl⟩
     have a1: -3000≤e:=by omega
     have a2:e≤3000:=by omega
     have a3:(lim m).length=0:=by omega
     show AV.v (.bool _)=AV.v (.bool _)
     unfold dyB
     rw[hw,hm,decide_eq_true a1,decide_eq_true a2,decide_eq_true a3,h0]
     simp
    ·simp(disch:=omega)only[go_sem,h4]
     refine qn (aba m 0 (by omega) (by omega) (by omega)) ?_
     simp(disch:=omega)only[go_sem]
     refine qA (by simp(disch:=omega)only[go_sem]) (by simp(disch:=omega)only[go_sem]) ⟨?_,rfl,rfl⟩
     have a1: -3000≤e:=by omega
     have a2:e≤3000:=by omega
     have a3:¬(lim m).length=0:=by omega
     show AV.v (.bool _)=AV.v (.bool _)
     unfold dyB
     rw[hw,hm,decide_eq_true a1,decide_eq_true a2,decide_eq_false a3]
     simp
     omega
  ·simp(disch:=omega)only[go_sem,h2]
   refine qA (by simp(disch:=omega)only[go_sem]) (by simp(disch:=omega)only[go_sem]) ⟨?_,rfl,rfl⟩
   have a1:¬ -3000≤e:=by omega
   simp[zl,dyB,a1]
 ·simp(disch:=omega)only[go_sem,hw]
  refine qA (by simp(disch:=omega)only[go_sem]) (by simp(disch:=omega)only[go_sem]) ⟨?_,rfl,rfl⟩
  simp[zl,dyB,hw]
end Go.Ab
namespace Go.Ab
open Go Go.Proofs
theorem Jl(s:Bool)(m:Nat)(e:Int):dyB (oS s m) (lim (oM m)) (oE m e)=yb m e:=by
 unfold dyB zP yb jL
 rw[zd,Int.toNat_natCast]
 have hod:=aTU m
 have hz:=bk1 s m
 by_cases h:(lim (oM m)).length≤100
 ·rw[ar2 _ h,decide_eq_true h,Bool.true_and,Bool.true_and]
  by_cases h0:oM m=0
  ·have hm:m=0:=yH.1 h0
   rw[hz h0,h0,hm]
   simp[oE,qo]
  ·have h1:oM m % 2=1:=hod.resolve_right h0
   have h2:decide ((lim (oM m)).length=0)=false:=by
    have:=yV h0
    exact decide_eq_false (by omega)
   rw[h2,decide_eq_true h1]
   simp
 ·rw[decide_eq_false h]
  have:YJ (lim (oM m))=false:=by unfold YJ;rw[decide_eq_false h,Bool.false_and]
  rw[this];simp
theorem alU(s:Bool)(m:Nat)(e:Int)(hl:(lim (oM m)).length≤2^40):Con Tryz.prog 172 false [.ag [.v (.bool (oS s m)),.sl (lim (oM m)).length (qc (lim (oM m))),.v (.int .i64 (oE m e))]] [] (isA (if yb m e=true then .tu [.ag [.v (.bool (oS s m)),.sl (lim (oM m)).length (qc (lim (oM m))),.v (.int .i64 (oE m e))],.v (.bool true)]else .tu [.ag [.v (.bool (false)),.sl (lim (0)).length (qc (lim (0))),.v (.int .i64 (0))],.v (.bool false)])):=by
 refine Con.frzA ?_
 have ck:=yC (oS s m) (lim (oM m)) (oE m e) hl
 rw[Jl]at ck
 cases hd:yb m e
 ·rw[hd]at ck
  rw[if_neg (by simp),qo]
  refine Con.of_w (rs:=[.cell 2 42,.tmp 3]) Tryz.func172 rfl Tryz.ntmps172 rfl ?_
  simp(disch:=omega)only[go_sem]
  refine qn (ck) ?_
  simp(disch:=omega)only[go_sem]
  exact qj
 ·rw[hd]at ck
  rw[if_pos rfl]
  refine Con.of_w (rs:=[.cell 2 42,.tmp 3]) Tryz.func172 rfl Tryz.ntmps172 rfl ?_
  simp(disch:=omega)only[go_sem]
  refine qn (ck) ?_
  simp(disch:=omega)only[go_sem]
  exact qj
def pmS(s1:Bool)(m1:Nat)(s2:Bool)(m2:Nat):Bool:=(s1 != s2)&&decide (m1*m2≠0)
end Go.Ab
namespace Go.Ab
open Go Go.Proofs
theorem atp(s1:Bool)(m1:Nat)(s2:Bool)(m2:Nat)(l1:(lim m1).length≤2^40)(l2:(lim m2).length≤2^40)(z1:m1=0→s1=false)(z2:m2=0→s2=false):
  Con Tryz.prog 210 true [.ag [.v (.bool (s1)),.sl (lim (m1)).length (qc (lim (m1)))],.ag [.v (.bool (s2)),.sl (lim (m2)).length (qc (lim (m2)))]] [] (isA (.v (.int .i64 (zH (sv s1 m1) (sv s2 m2))))):=by
 rw[abt z1 z2]
 cases s1<;>cases s2
 ·refine Con.of_w (rs:=[.tmp 4]) Tryz.func210 rfl Tryz.ntmps210 rfl ?_
  simp(disch:=omega)only[go_sem]
  refine qn (Jw m1 m2 l1 l2) ?_
  simp(disch:=omega)only[go_sem]
  exact qy
 ·refine Con.of_w (rs:=[.tmp 4]) Tryz.func210 rfl Tryz.ntmps210 rfl ?_
  simp(disch:=omega)only[go_sem]
  exact qy
 ·refine Con.of_w (rs:=[.tmp 4]) Tryz.func210 rfl Tryz.ntmps210 rfl ?_
  simp(disch:=omega)only[go_sem]
  exact qy
 ·refine Con.of_w (rs:=[.tmp 4]) Tryz.func210 rfl Tryz.ntmps210 rfl ?_
  simp(disch:=omega)only[go_sem]
  refine qn (Jw m2 m1 l2 l1) ?_
  simp(disch:=omega)only[go_sem]
  exact qy
theorem atm(K:Nat)(s1:Bool)(m1:Nat)(e1:Int)(s2:Bool)(m2:Nat)(e2:Int)(h1:bl m1≤4000000)(h2:bl m2≤4000000)(he1: -1000000≤e1∧e1≤1000000)(he2: -1000000≤e2∧e2≤1000000)(k1: -(K:Int)≤e1)(k2: -(K:Int)≤e2)(z1:m1=0→s1=false)(z2:m2=0→s2=false):
  Con Tryz.prog 118 true [.ag [.v (.bool (s1)),.sl (lim (m1)).length (qc (lim (m1))),.v (.int .i64 (e1))],.ag [.v (.bool (s2)),.sl (lim (m2)).length (qc (lim (m2))),.v (.int .i64 (e2))]] [] (isA (.v (.int .i64 (zH (dv K s1 m1 e1) (dv K s2 m2 e2))))):=by
 have hE:=QK (m1:=m1) (m2:=m2) he1.1 he2.1
 have b1:=qC (Zh (e:=e1) (E:=alE m1 e1 m2 e2) (C:=2000000) h1 (by omega))
 have b2:=qC (Zh (e:=e2) (E:=alE m1 e1 m2 e2) (C:=2000000) h2 (by omega))
 rw[←agF k1 k2]
 have y1:alA m1 e1 (alE m1 e1 m2 e2)=0→s1=false:=fun h=>z1 (QL.1 h)
 have y2:alA m2 e2 (alE m1 e1 m2 e2)=0→s2=false:=fun h=>z2 (QL.1 h)
 refine Con.of_w (rs:=[.tmp 4]) Tryz.func118 rfl Tryz.ntmps118 rfl ?_
 simp(disch:=omega)only[go_sem]
 refine qa (Jt s1 m1 e1 s2 m2 e2 h1 h2 he1 he2 z1 z2) ?_
 simp(disch:=omega)only[go_sem]
 refine qn (atp s1 (alA m1 e1 (alE m1 e1 m2 e2)) s2 (alA m2 e2 (alE m1 e1 m2 e2)) (by omega) (by omega) y1 y2) ?_
 simp(disch:=omega)only[go_sem]
 exact qy
theorem amc(s1:Bool)(m1:Nat)(e1:Int)(s2:Bool)(m2:Nat)(e2:Int)(h1:dyB s1 (lim m1) e1=true)(h2:dyB s2 (lim m2) e2=true):
  Con Tryz.prog 40 true [.ag [.v (.bool (s1)),.sl (lim (m1)).length (qc (lim (m1))),.v (.int .i64 (e1))],.ag [.v (.bool (s2)),.sl (lim (m2)).length (qc (lim (m2))),.v (.int .i64 (e2))]] [] (isA (.v (.int .i64 (zH (dv 3000 s1 m1 e1) (dv 3000 s2 m2 e2))))):=by
 obtain⟨n1,q1,b1,c1,d1,_,f1⟩:=Jk h1
 obtain⟨n2,q2,b2,c2,d2,_,f2⟩:=Jk h2
 obtain rfl:=Qa q1
 obtain rfl:=Qa q2
 have k1:=yC s1 (lim m1) e1 (by omega)
 have k2:=yC s2 (lim m2) e2 (by omega)
 rw[h1]at k1
 rw[h2]at k2
 refine Con.of_w (rs:=[.tmp 4]) Tryz.func40 rfl Tryz.ntmps40 rfl ?_
 simp(disch:=omega)only[go_sem]
 refine qn (k1) ?_
 simp(disch:=omega)only[go_sem]
 refine qn (k2) ?_
 simp(disch:=omega)only[go_sem]
 refine qn (atm 3000 s1 m1 e1 s2 m2 e2 (by omega) (by omega) (by omega) (by omega) (by omega) (by omega) f1 f2) ?_
 simp(disch:=omega)only[go_sem]
 exact qy
theorem abm(n:Int)(h: -9223372036854775808≤n∧n<9223372036854775808):Con Tryz.prog 79 false [.v (.int .i64 n)] [] (isA (.ag [.v (.bool (decide (n<0))),.sl (lim (n.natAbs)).length (qc (lim (n.natAbs)))])):=by
 refine Con.frzA ?_
 refine Con.of_w (rs:=[.cell 2 40]) Tryz.func79 rfl Tryz.ntmps79 rfl ?_
 simp(disch:=omega)only[go_sem]
 refine qa (Y9 n h) ?_
 simp(disch:=omega)only[go_sem]
 exact qj
theorem aQL(e:Int):Con Tryz.prog 171 true [.v (.int .i64 e)] [] (isA (.v (.bool (decide (-12000≤e)&&decide (e≤12000))))):=by
 refine Con.of_aw Tryz.func171 rfl Tryz.ntmps171 (by simp) (by simp) (by simp) (W.sound ?_)
 show @W Tryz.prog 9 ⟨_⟩ ⟨fun x σ=>@q9 _ _ _ ⟨_⟩ _ ⟨_⟩ x σ⟩ _ _
 simp(disch:=omega)only[go_sem]
 repeat' first
  |simp(disch:=omega)only[go_sem, *]
  |(with_reducible refine qe (fun _=>?_) (fun _=>?_))
  |(with_reducible refine zG (fun _=>?_) (fun _=>?_))
  |(with_reducible refine agn (fun _=>?_) (fun _=>?_))
  |(with_reducible refine Qb (fun _=>?_) (fun _=>?_))
 all_goals exact qA (by simp(disch:=omega)only[go_sem]) (by simp(disch:=omega)only[go_sem]) ⟨by simp_all[zl]<;>omega,rfl,rfl⟩
theorem abq(s:Bool)(m:Nat)(e:Int)(h:zP s (lim m)=true)(he: -12000≤e∧e≤12000):
  Con Tryz.prog 78 false [.ag [.v (.bool (s)),.sl (lim (m)).length (qc (lim (m)))],.v (.int .i64 e)] [] (isA (if yb m e=true then .tu [.ag [.v (.bool (oS s m)),.sl (lim (oM m)).length (qc (lim (oM m))),.v (.int .i64 (oE m e))],.v (.bool true)]else .tu [.ag [.v (.bool (false)),.sl (lim (0)).length (qc (lim (0))),.v (.int .i64 (0))],.v (.bool false)])):=by
 refine Con.frzA ?_
 have h':=h
 simp only[zP,Bool.and_eq_true]at h'
 obtain⟨_,hl⟩:=Zw h'.1
 have hb:=abz (m:=m)
 have hb2:=qC (Nat.le_trans (ye (aOM m)) hb)
 have k1:=Ze s (lim m) (by omega)
 rw[h]at k1
 have k2:=aQL e
 rw[decide_eq_true he.1,decide_eq_true he.2]at k2
 have cf:=alU s m e (by omega)
 cases hd:yb m e
 ·rw[hd,if_neg (by simp),qo]at cf
  rw[if_neg (by simp),qo]
  refine Con.of_w (rs:=[.cell 4 42,.tmp 5]) Tryz.func78 rfl Tryz.ntmps78 rfl ?_
  simp(disch:=omega)only[go_sem]
  refine qn (k1) ?_
  simp(disch:=omega)only[go_sem]
  refine qn (k2) ?_
  simp(disch:=omega)only[go_sem]
  refine qa (jP s m e (by omega) (by omega)) ?_
  simp(disch:=omega)only[go_sem]
  refine qa (cf) ?_
  simp(disch:=omega)only[go_sem]
  exact qj
 ·rw[hd,if_pos rfl]at cf
  rw[if_pos rfl]
  refine Con.of_w (rs:=[.cell 4 42,.tmp 5]) Tryz.func78 rfl Tryz.ntmps78 rfl ?_
  simp(disch:=omega)only[go_sem]
  refine qn (k1) ?_
  simp(disch:=omega)only[go_sem]
  refine qn (k2) ?_
  simp(disch:=omega)only[go_sem]
  refine qa (jP s m e (by omega) (by omega)) ?_
  simp(disch:=omega)only[go_sem]
  refine qa (cf) ?_
  simp(disch:=omega)only[go_sem]
  exact qj
theorem abI:tz 1=0:=af1 rfl
theorem y9:lim 1=[1]:=by rw[j6 (by omega)];simp[qo]
/-! ### Sameness-/
theorem afp(a b:Nat)(la:(lim a).length≤2^40)(lb:(lim b).length≤2^40):Con Tryz.prog 200 true [.ag [.sl (lim (a)).length (qc (lim (a)))],.ag [.sl (lim (b)).length (qc (lim (b)))]] [] (isA (.v (.bool (decide (a=b))))):=by
 refine Con.of_w (rs:=[.tmp 4]) Tryz.func200 rfl Tryz.ntmps200 rfl ?_
 simp(disch:=omega)only[go_sem]
 refine zG (fun h1=>?_) (fun h1=>?_)
 ·simp(disch:=omega)only[go_sem,h1]
  rw[decide_eq_false (fun e=>h1 (by rw[e]))]
  exact qy
 ·have hl:(lim a).length=(lim b).length:=by omega
  simp(disch:=omega)only[go_sem,h1]
  refine qh (fun i:Nat=>[(2,.pt 40000000 0),(3,.pt 50000000 0),(5,.v (.int .i64 i))]) (fun _=>[(40000000,.own 0 [.sl (lim (a)).length (qc (lim (a)))]),(50000000,.own 0 [.sl (lim (b)).length (qc (lim (b)))])])
   (fun i=>i≤(lim a).length∧(lim a).take i=(lim b).take i) (fun i=>(lim a).length-i) 0 ⟨by omega,by simp⟩ (Le.lst [] _ _ rfl (by simp(disch:=omega)only[go_sem];try omega) (by simp(disch:=omega)only[go_sem])) ?_
  rintro i ⟨hi,ht⟩
  simp(disch:=omega)only[go_sem]
  refine qe (fun h2=>?_) (fun h2=>?_)
  ·simp(disch:=omega)only[go_sem,h2]
   refine qs rfl [⟨0,[],[]⟩,⟨1,[],[]⟩,⟨2,[1],[]⟩,⟨3,[],[]⟩,⟨4,[],[]⟩,⟨5,[1,4],[]⟩,⟨6,[1,4],[]⟩,⟨7,[1,4,6],[]⟩,⟨8,[1,4],[]⟩,⟨9,[1,4],[]⟩,⟨10,[],[]⟩] (by kernel_rfl) ?_
   simp(disch:=omega)only[go_sem]
   refine⟨by omega,by omega,by omega,by omega,?_⟩
   refine zG (fun h3=>?_) (fun h3=>?_)
   ·simp(disch:=omega)only[go_sem,h3]
    rw[decide_eq_false (fun e=>h3 (by rw[e]))]
    exact qy
   ·simp(disch:=omega)only[go_sem,h3]
    refine qb (i+1) [] ⟨by omega,?_⟩ (by show(lim a).length-(i+1)<(lim a).length-i;omega) rfl (by simp(disch:=omega)only[go_sem];try omega) (by simp(disch:=omega)only[go_sem])
    rw[jH (l:=lim a) (by omega),jH (l:=lim b) (by omega),ht,h3]
  ·simp(disch:=omega)only[go_sem,h2]
   have:i=(lim a).length:=by omega
   subst this
   have ht2:lim a=lim b:=by
    have h4:=List.take_of_length_le (l:=lim b) (i:=(lim a).length) (by omega)
    rw[List.take_length,h4]at ht
    exact ht
   rw[decide_eq_true (Qa ht2)]
   exact qy
theorem Y6(s1:Bool)(m1:Nat)(s2:Bool)(m2:Nat)(l1:(lim m1).length≤2^40)(l2:(lim m2).length≤2^40):Con Tryz.prog 106 true [.ag [.v (.bool (s1)),.sl (lim (m1)).length (qc (lim (m1)))],.ag [.v (.bool (s2)),.sl (lim (m2)).length (qc (lim (m2)))]] [] (isA (.v (.bool ((s1==s2)&&decide (m1=m2))))):=by
 refine Con.of_w (rs:=[.tmp 4]) Tryz.func106 rfl Tryz.ntmps106 rfl ?_
 cases hs:(s1==s2)
 ·simp(disch:=omega)only[go_sem,hs]
  exact qy
 ·simp(disch:=omega)only[go_sem,hs]
  refine qn (afp m1 m2 l1 l2) ?_
  simp(disch:=omega)only[go_sem]
  exact qy
theorem Yj(s1:Bool)(m1:Nat)(e1:Int)(s2:Bool)(m2:Nat)(e2:Int)(l1:(lim m1).length≤2^40)(l2:(lim m2).length≤2^40):Con Tryz.prog 32 true [.ag [.v (.bool (s1)),.sl (lim (m1)).length (qc (lim (m1))),.v (.int .i64 (e1))],.ag [.v (.bool (s2)),.sl (lim (m2)).length (qc (lim (m2))),.v (.int .i64 (e2))]] [] (isA (.v (.bool (decide (e1=e2)&&((s1==s2)&&decide (m1=m2)))))):=by
 cases he:decide (e1=e2)
 ·have he':¬e1=e2:=by simpa using he
  refine Con.of_w (rs:=[.tmp 4]) Tryz.func32 rfl Tryz.ntmps32 rfl ?_
  simp(disch:=omega)only[go_sem,he']
  exact qy
 ·refine Con.of_w (rs:=[.tmp 4]) Tryz.func32 rfl Tryz.ntmps32 rfl ?_
  simp(disch:=omega)only[go_sem,he]
  refine qn (Y6 s1 m1 s2 m2 l1 l2) ?_
  simp(disch:=omega)only[go_sem]
  exact qy
end Go.Ab
namespace Go.Ab
open Go Go.Proofs
theorem abf(e:Int)(he: -3000≤e∧e≤3000):Con Tryz.prog 16 false [.v (.int .i64 1),.v (.int .i64 e)] [] (isA (.ag [.v (.bool (false)),.sl (lim (1)).length (qc (lim (1))),.v (.int .i64 (e))])):=by
 refine Con.frzA ?_
 have hm:oM 1=1:=by unfold oM;rw[abI]
 have hE:oE 1 e=e:=by unfold oE;rw[abI,if_neg (by decide)];simp
 have hf:yb 1 e=true:=by
  unfold yb jL;rw[hm,hE,y9]
  simp only[Bool.and_eq_true,decide_eq_true_eq]
  exact⟨by decide,by omega,by omega⟩
 have c1:=abq false 1 e (by rw[y9];decide) (by omega)
 rw[if_pos hf,hm,hE]at c1
 have c0:=abm 1 (by omega)
 have e1:decide ((1:Int)<0)=false:=rfl
 have e2:(1:Int).natAbs=1:=rfl
 rw[e1,e2]at c0
 refine Con.of_aw Tryz.func16 rfl Tryz.ntmps16 (by simp) (by simp) (by simp) (W.sound ?_)
 show @W Tryz.prog 15 ⟨_⟩ ⟨fun x σ=>@q9 _ _ _ ⟨_⟩ _ ⟨_⟩ x σ⟩ _ _
 simp(disch:=omega)only[go_sem]
 refine qa (c0) ?_
 simp(disch:=omega)only[go_sem]
 refine qa (c1) ?_
 simp(disch:=omega)only[go_sem]
 refine qO (by simp(disch:=omega)only[go_sem]) ?_
 show qG _ 6 _=_
 rfl
theorem aJK:tz 1024=10:=QP (a:=0) (by decide)
theorem aY5:(ExV.can ⟨false,1024, -10⟩)=⟨false,1,0⟩:=by
 show(⟨oS false 1024,oM 1024,oE 1024 (-10)⟩:ExV)=_
 unfold oS oM oE
 rw[aJK];rfl
theorem atR:(ExV.can ⟨false,1, -14⟩)=⟨false,1, -14⟩:=by
 show(⟨oS false 1,oM 1,oE 1 (-14)⟩:ExV)=_
 unfold oS oM oE
 rw[abI];rfl
theorem YY(x:ExV)(a:Nat)(s:Bool)(e:Int)(h:x.can=⟨s,a,e⟩)(h1:(lim a).length≤100)(h2: -3000≤e∧e≤3000):x.fit=true:=by
 have e1:oM x.m=a:=congrArg ExV.m h
 have e2:oE x.m x.e=e:=congrArg ExV.e h
 unfold ExV.fit yb jL
 rw[e1,e2]
 simp only[Bool.and_eq_true,decide_eq_true_eq]
 exact⟨h1,h2⟩
theorem afL(n:Nat)(h1:n=1):Con Tryz.prog 65 false [.ag [.v (.int .i64 (n)),.sl ([ex0]).length (ql ExV.cs ([ex0]))],.v (.int .i64 (-10))] [] (isA (.tu [.ag [.v (.int .i64 (n)),.sl ([ex1]).length (ql ExV.cs ([ex1]))],.ag [.v (.bool (false)),.sl (lim (1)).length (qc (lim (1))),.v (.int .i64 (-14))],.v (.bool true)])):=by
 have c:=afK n [ex0] (-10) aJk (by omega) (by rw[h1];rfl) (by omega) (abc n h1) (aty n h1) (by rw[h1];decide+kernel) (by decide+kernel) (by
  rw[show aJk=[⟨⟨false,16383, -14⟩,⟨false,16385, -14⟩⟩] by decide+kernel,List.all_cons,List.all_nil]
  have t1:tz 16383=0:=af1 rfl
  have t2:tz 16385=0:=af1 rfl
  have f1:ExV.fit ⟨false,16383, -14⟩=true:=YY _ 16383 false (-14) (by show(⟨oS false 16383,oM 16383,oE 16383 (-14)⟩:ExV)=_;unfold oS oM oE;rw[t1];rfl) (by have:=qC (m:=16383) (B:=20) (zB.2 (by decide));omega) (by omega)
  have f2:ExV.fit ⟨false,16385, -14⟩=true:=YY _ 16385 false (-14) (by show(⟨oS false 16385,oM 16385,oE 16385 (-14)⟩:ExV)=_;unfold oS oM oE;rw[t2];rfl) (by have:=qC (m:=16385) (B:=20) (zB.2 (by decide));omega) (by omega)
  unfold SpV.fit
  rw[f1,f2];rfl)
 have eX:agt n aJk (-10)=[⟨false,1024, -10⟩]:=by rw[h1];decide+kernel
 have eF:jN n aJk (-10)=⟨false,1, -14⟩:=by rw[h1];decide+kernel
 rw[eX,eF]at c
 have f1:ExV.fit ⟨false,1024, -10⟩=true:=YY _ 1 false 0 aY5 (by rw[y9];decide) (by omega)
 have f2:ExV.fit ⟨false,1, -14⟩=true:=YY _ 1 false (-14) atR (by rw[y9];decide) (by omega)
 rw[List.all_cons,List.all_nil,f1,f2,if_pos (by rfl),List.map_cons,List.map_nil,aY5,atR]at c
 exact c
set_option maxRecDepth 100000 in
theorem QF:Con Tryz.prog 14 true [] [] (isA (.v (.bool true))):=by
 obtain⟨n,hn⟩:∃n:Nat,n=1:=⟨1,rfl⟩
 have c:=afL n hn
 have en:(n:Int)=1:=by omega
 have hrow:ql ExV.cs [ex0]=[.v (.bool false),.sl 0 [],.v (.int .i64 0)]:=by
  simp[ql,ExV.cs,ex0,qo,qc]
 rw[en,hrow]at c
 have hr1:ql ExV.cs [ex1]=[.v (.bool false),.sl (lim 1).length (qc (lim 1)),.v (.int .i64 0)]:=by
  simp[ql,ExV.cs,ex1]
 rw[hr1]at c
 have cd1:=abf 0 (by omega)
 have cd2:=abf (-9) (by omega)
 have csd:=Yj false 1 0 false 1 0 (by rw[y9];decide) (by rw[y9];decide)
 rw[show(decide ((0:Int)=0)&&((false==false)&&decide ((1:Nat)=1)))=true from rfl]at csd
 have hb:∀e:Int, -3000≤e∧e≤3000→dyB false (lim 1) e=true:=fun e he=>by
  rw[y9];unfold dyB
  rw[show zP false [1]=true by decide,decide_eq_true he.1,decide_eq_true he.2];rfl
 have ccm:=amc false 1 (-14) false 1 (-9) (hb _ (by omega)) (hb _ (by omega))
 have hle:zH (dv 3000 false 1 (-14)) (dv 3000 false 1 (-9))≤0:=(atL _ _).1.2 (by
  unfold dv sv
  rw[if_neg (by simp),show(-9+((3000:Nat):Int)).toNat=(-14+((3000:Nat):Int)).toNat+5 by rfl,Int.pow_add]
  have:(0:Int)<2^(-14+((3000:Nat):Int)).toNat:=Int.pow_pos (by omega)
  generalize (2:Int)^(-14+((3000:Nat):Int)).toNat=p at*
  omega)
 have q3:decide (zH (dv 3000 false 1 (-14)) (dv 3000 false 1 (-9))≤0)=true:=decide_eq_true hle
 generalize zH (dv 3000 false 1 (-14)) (dv 3000 false 1 (-9))=C at*
 refine Con.of_aw Tryz.func14 rfl Tryz.ntmps14 (by simp) (by simp) (by simp)
  (AW.seqLe (E:=[(0,.v (.bool false))]) (H:=[]) (W.sound ?_) (AW.regSplit (E:=[(0,.v (.bool false)),(7,.ag [.v (.int .i64 1),.sl 1 [.v (.bool false),.sl 0 [],.v (.int .i64 0)]])]) (H:=[]) 3 (by simp only[List.take_succ_cons,List.take_zero];rfl) (by simp only[List.drop_succ_cons,List.drop_zero];rfl) ?_ ?_))
 ·show @W Tryz.prog 38 ⟨_⟩ ⟨_⟩ _ _
  simp(disch:=omega)only[go_sem]
  exact Le.lst [] _ _ rfl (by simp(disch:=omega)only[go_sem]) (by simp(disch:=omega)only[go_sem])
 ·simp(disch:=omega)only[go_sem]
  exact(Le.nilC 80000000 1 (zo:=3) (cs:=[.v (.bool false),.v (.slice none 0 0),.v (.int .i64 0)]) (by simp(disch:=omega)only[go_sem]) rfl).trans ((Le.frz 80000000 (z:=3) (ks:=[.v (.bool false),.sl 0 [],.v (.int .i64 0)]) (by simp(disch:=omega)only[go_sem,List.set_cons_succ,List.set_cons_zero]) rfl (by simp(disch:=omega)only[go_sem])).trans (Le.lst [] _ _ rfl (by simp(disch:=omega)only[go_sem]) (by simp(disch:=omega)only[go_sem])))
 show @Ch Tryz.prog 38 ⟨_⟩ ⟨_⟩ ⟨fun σ=>@W Tryz.prog 38 ⟨_⟩ ⟨fun x σ=>@q9 _ _ _ ⟨_⟩ _ ⟨_⟩ x σ⟩ σ.env σ.hp⟩ _ _
 simp(disch:=omega)only[go_sem]
 refine qa (c) ?_
 simp(disch:=omega)only[go_sem]
 refine qs rfl [⟨0,[],[]⟩,⟨1,[],[]⟩,⟨2,[],[]⟩,⟨3,[],[]⟩,⟨4,[],[]⟩,⟨5,[],[]⟩,⟨6,[],[]⟩,⟨7,[],[]⟩,⟨8,[],[]⟩,⟨9,[],[]⟩,⟨10,[],[]⟩,⟨11,[],[]⟩,⟨12,[],[]⟩,⟨13,[],[]⟩,⟨14,[],[]⟩,⟨15,[],[]⟩,⟨16,[],[]⟩,⟨17,[14,16],[]⟩,⟨18,[],[]⟩,⟨19,[],[]⟩,⟨20,[],[]⟩,⟨21,[],[]⟩,⟨22,[21],[]⟩,⟨23,[],[]⟩,⟨24,[],[]⟩,⟨25,[],[]⟩,⟨26,[],[]⟩] (by kernel_rfl) ?_
 simp(disch:=omega)only[go_sem]
 refine qa (cd1) ?_
 simp(disch:=omega)only[go_sem]
 refine qn (csd) ?_
 simp(disch:=omega)only[go_sem]
 refine qa (cd2) ?_
 simp(disch:=omega)only[go_sem]
 refine qn (ccm) ?_
 simp(disch:=omega)only[go_sem]
 simp(disch:=omega)only[go_sem,q3]
 exact qy
end Go.Ab
namespace Go.Ab
theorem aQF{K:Nat}{s:Bool}{m:Nat}{e:Int}{s':Bool}{m':Nat}{e':Int}(he: -(K:Int)≤e)(he': -(K:Int)≤e')(h:dv K s m e=dv K s' m' e'):oS s m=oS s' m'∧oM m=oM m'∧oE m e=oE m' e':=by
 by_cases h0:m=0
 ·have h0':m'=0:=by rw[h0,Q1]at h;exact alC.1 h.symm
  rw[h0,h0'];exact⟨rfl,rfl,rfl⟩
 ·obtain⟨rfl,hM,hE,h0'⟩:=aYQ h0 he he' h
  refine⟨?_,hM,hE⟩
  unfold oS;rw[if_neg h0,if_neg h0']
end Go.Ab
namespace Go.Ab
open Go Go.Proofs
def ExV.val(K:Nat)(x:ExV):Int:=dv K x.s x.m x.e
theorem yq{x:ExV}(h:x.ok=true):(-3000≤x.e∧x.e≤3000)∧bl x.m≤1600∧(lim x.m).length≤100∧(x.m=0→x.s=false∧x.e=0)∧(x.m % 2=1∨x.m=0):=by
 obtain⟨m,e1,h1,h2,h3,h4,h5⟩:=Jk h
 obtain rfl:=Qa e1
 exact⟨h3,h2,h1,fun h0=>⟨h5 h0,by omega⟩,by omega⟩
theorem aTL{x:ExV}(h:x.ok=true):x.can=x:=by
 obtain⟨h1,h2,h3,h4,h5⟩:=yq h
 show(⟨oS x.s x.m,oM x.m,oE x.m x.e⟩:ExV)=x
 obtain⟨s,m,e⟩:=x
 dsimp only at*
 rcases h5 with o|h0
 ·have h0:m≠0:=by omega
  have ht:=af1 o
  have g1:oS s m=s:=by unfold oS;rw[if_neg h0]
  have g2:oM m=m:=by have:=@agd m;rw[ht]at this;simpa using this
  have g3:oE m e=e:=by unfold oE;rw[if_neg h0,ht];simp
  rw[g1,g2,g3]
 ·obtain⟨rfl,rfl⟩:=h4 h0
  rw[h0,y6];rfl
theorem abv{x:ExV}(h:x.fit=true):x.can.ok=true:=by
 show dyB (oS x.s x.m) (lim (oM x.m)) (oE x.m x.e)=true
 rw[Jl];exact h
theorem Yb:ex0.ok=true:=by show dyB false (lim 0) 0=true;rw[qo];decide
theorem afO{K:Nat}{x:ExV}(h: -(K:Int)≤x.e):x.can.val K=x.val K:=by
 show dv K (oS x.s x.m) (oM x.m) (oE x.m x.e)=_
 rw[aQE h,bhY];rfl
theorem Qo{K:Nat}{x y:ExV}(h1: -(K:Int)≤x.e)(h2: -(K:Int)≤y.e):(x.plus y).val K=x.val K+y.val K:=bis h1 h2
theorem amE{K K':Nat}{x y:ExV}(h1: -(K:Int)≤x.e)(h2: -(K':Int)≤y.e):(x.times y).val (K+K')=x.val K*y.val K':=by
 show dv (K+K') ((x.s != y.s)&&decide (x.m*y.m≠0)) (x.m*y.m) (x.e+y.e)=_
 rw[aJv];exact aYP h1 h2
theorem aPa{K:Nat}{x:ExV}:x.neg.val K= -x.val K:=by
 show dv K ((!x.s)&&decide (x.m≠0)) x.m x.e= -dv K x.s x.m x.e
 rw[aJv];unfold dv;rw[aSC,Int.neg_mul]
theorem aRA{K:Nat}{x:ExV}:x.abs.val K=(x.val K).natAbs:=by
 show dv K false x.m x.e=((dv K x.s x.m x.e).natAbs:Int)
 unfold dv sv
 rw[Int.natAbs_mul]
 have hp:0≤(2:Int)^(x.e+(K:Int)).toNat:=Int.le_of_lt (Int.pow_pos (by omega))
 have e:(((2:Int)^(x.e+(K:Int)).toNat).natAbs:Int)=2^(x.e+(K:Int)).toNat:=by omega
 rw[Int.natCast_mul,e]
 cases x.s<;>simp
theorem aaw{K:Int}{x y:ExV}(h1:K≤x.e)(h2:K≤y.e):K≤(x.plus y).e:=QK h1 h2
theorem bh3{K:Int}{x:ExV}(h: -K≤x.e)(h0:0≤K): -K≤x.can.e:=bga h h0
theorem Xi(x:ExV):x.can.ok=x.fit:=Jl x.s x.m x.e
def ExV.tel(x:ExV):ExV:=if x.fit=true then x.can else ex0
theorem af6(x:ExV):x.tel.ok=true:=by
 unfold ExV.tel;split
 ·rename_i h;exact abv h
 ·exact Yb
theorem aNy{x:ExV}(h:x.fit=true):x.tel=x.can:=if_pos h
theorem as9(x y:ExV)(hx:x.ok=true)(hy:y.ok=true):Con Tryz.prog 32 true [.ag [.v (.bool (x).s),.sl (lim (x).m).length (qc (lim (x).m)),.v (.int .i64 (x).e)],.ag [.v (.bool (y).s),.sl (lim (y).m).length (qc (lim (y).m)),.v (.int .i64 (y).e)]] [] (isA (.v (.bool (decide (x=y))))):=by
 have c:=Yj x.s x.m x.e y.s y.m y.e (by have:=(yq hx).2.2.1;omega) (by have:=(yq hy).2.2.1;omega)
 have e:(decide (x.e=y.e)&&((x.s==y.s)&&decide (x.m=y.m)))=decide (x=y):=by
  obtain⟨s,m,e⟩:=x
  obtain⟨t,n,f⟩:=y
  rw[Bool.eq_iff_iff]
  simp only[Bool.and_eq_true,decide_eq_true_eq,beq_iff_eq,ExV.mk.injEq]
  exact⟨fun⟨a,b,c⟩=>⟨b,c,a⟩,fun⟨a,b,c⟩=>⟨c,a,b⟩⟩
 rw[e]at c;exact c
/-! ### Floats that are numbers-/
def flD(F:FlV):ExV:=⟨oS (xS F.k F.s) F.m.toNat,oM F.m.toNat,oE F.m.toNat F.e⟩
end Go.Ab
namespace Go.Ab
open Go
section
variable {P:Program}{f:FuncId}{args:List AV}{bs:List Ob}{post:AV→List Ob→List Ob→Prop}
theorem Con.frzB(h:Con P f false args bs post)(hm:∀r hs bs',post r hs bs'→(∀ob∈bs',ob.men fun _=>False)∧∀ob∈hs,ob.men fun _=>False):
  Con P f false args bs (fun r' hs' bs'=>hs'=[]∧∃r hs,post r hs bs'∧r'=qG (rhp hs []) 6 r):=by
 intro R ι w vs h1 h2 h3 h4 h5
 refine(h R ι w vs h1 h2 h3 h4 h5).mono ?_
 rintro e w' ⟨x,r,hs,bs',R',ι',he,hp,hF⟩
 obtain⟨mB,mH⟩:=hm _ _ _ hp
 have hfree:∀m,10000000≤m→rhp hs [] m=.free:=fun m hm=>by simp[rhp,hm]
 have hlow:∀m,m<10000000→rhp hs [] m=rhp hs bs' m:=fun m hm=>by unfold rhp;rw[if_neg (by omega),if_neg (by omega)]
 have hnil:∀m,m<10000000→rhp [] bs' m=.free:=fun m hm=>by unfold rhp;rw[if_neg (by omega)];simp
 have hhi:∀m,10000000≤m→rhp [] bs' m=rhp hs bs' m:=fun m hm=>by unfold rhp;rw[if_pos hm,if_pos hm]
 have hsm:∀{m z cs},rhp hs [] m=.own z cs→m<10000000∧rhp hs bs' m=.own z cs:=by
  intro m z cs e
  rcases Nat.lt_or_ge m 10000000 with hm|hm
  ·exact⟨hm,by rw[←hlow m hm];exact e⟩
  ·rw[hfree m hm]at e;cases e
 have hbg:∀{m z cs},rhp [] bs' m=.own z cs→10000000≤m∧rhp hs bs' m=.own z cs:=by
  intro m z cs e
  rcases Nat.lt_or_ge m 10000000 with hm|hm
  ·rw[hnil m hm]at e;cases e
  ·exact⟨hm,by rw[←hhi m hm];exact e⟩
 have hget:∀(l:List Ob) (k z:Nat) (cs:List AV),(∀ob∈l,ob.men fun _=>False)→l.getD k .free=.own z cs→AllL (fun _=>False) cs:=by
  intro l k z cs hl e
  rw[List.getD_eq_getElem?_getD]at e
  rcases Nat.lt_or_ge k l.length with hk|hk
  ·rw[List.getElem?_eq_getElem hk]at e
   have:=hl _ (List.getElem_mem hk)
   simp only[Option.getD_some]at e
   rw[e]at this;exact this
  ·rw[List.getElem?_eq_none hk]at e;cases e
 have hO:HpOk R' ι' w' (rhp hs []):=by
  refine⟨fun m=>?_,fun m z cs B e hB hr=>hF.nR m z cs B (hsm e).2 hB (.inr hr),fun m m' z z' cs cs' B B' e e'=>hF.inj m m' z z' cs cs' B B' (hsm e).2 (hsm e').2,fun m z cs e=>?_⟩
  ·rcases Nat.lt_or_ge m 10000000 with hm|hm
   ·rw[hlow m hm];exact hF.okF m hm
   ·rw[hfree m hm];trivial
  ·have h6:=(hsm e).1
   unfold rhp at e
   rw[if_neg (by omega)]at e
   exact(hget hs m z cs mH e).mono fun _ h=>h.elim
 have hown:∀{m z cs B},rhp hs [] m=.own z cs→ι' m=some B→w.heap.size≤B.b∧B.b<w'.heap.size:=by
  intro m z cs B e hB
  obtain⟨hm,e⟩:=hsm e
  refine⟨hF.fresh m z cs B hm e hB,?_⟩
  have:=hF.okF m hm
  rw[e,hB]at this
  obtain⟨c,T,lo,hi,g1,_⟩:=this
  rcases Nat.lt_or_ge B.b w'.heap.size with h'|h'
  ·exact h'
  ·simp[Array.getElem?_eq_none h']at g1
 refine⟨x,qG (rhp hs []) 6 r,[],bs',fun b=>R' b∨auw (rhp hs []) ι' b,ι',he,⟨rfl,r,hs,hp,rfl⟩,?_⟩
 refine⟨hF.ext,fun b hb=>?_,fun b hb=>?_,.fr _ _ (zK hO (fun _ h=>.inl h) (fun _ h=>.inr h) 6 hF.rep),jh 6 r,fun m hm=>?_,fun m hm=>?_,fun m z cs B e hB=>?_,
  fun m m' z z' cs cs' B B' e e'=>hF.inj m m' z z' cs cs' B B' (hbg e).2 (hbg e').2,fun m z cs e=>?_,fun m z cs B hm e=>?_,hF.len,hF.bown,hF.bnf⟩
 ·rcases hb with hb|⟨m,z,cs,B,e,hB,rfl⟩
  ·exact hF.rlt b hb
  ·exact(hown e hB).2
 ·rcases hb with hb|⟨m,z,cs,B,e,hB,rfl⟩
  ·exact hF.rnew b hb
  ·exact .inl (hown e hB).1
 ·rw[hnil m hm];trivial
 ·rw[hhi m hm]
  exact(hF.okB m hm).mono (fun _ _=>rfl) (fun _ _ _ _ _=>rfl) (fun b hb=>hb.elim .inl fun h=>.inr (.inl h)) (fun z cs e=>AllL.of_mem fun a _=>AV.all_true (fun _=>rfl) a)
 ·obtain⟨hm,e⟩:=hbg e
  have h6:=hF.nR m z cs B e hB
  rintro(hr|hr|⟨m',z',cs',B',e',hB',hb⟩)
  ·exact h6 (.inl hr)
  ·exact h6 (.inr hr)
  ·obtain⟨hm',e'⟩:=hsm e'
   have:=hF.inj m' m z' z cs' cs B' B e' e hB' hB hb
   omega
 ·have h6:=(hbg e).1
  unfold rhp at e
  rw[if_pos h6]at e
  exact(hget bs' _ z cs mB e).mono fun _ h=>h.elim
 ·rw[hnil m hm]at e;cases e
end
end Go.Ab
namespace Go.Ab
open Go
structure IvV where
 lo:DyV
 hi:DyV
def IvV.cs(x:IvV):List AV:=x.lo.cs++x.hi.cs
def dy0:DyV:=⟨false,[],0⟩
def iv0:IvV:=⟨dy0,dy0⟩
theorem aUf(x:IvV):x.cs.length=6:=rfl
theorem aJi{ρ:Nat→Nat}(x:IvV):zN ρ x.cs=x.cs:=rfl
theorem ass{hp:Nat→Ob}{k:Nat}(x:IvV):x.cs.map (qG hp (k+1))=x.cs:=rfl
theorem aJj{p:Nat→Prop}(x:IvV):AllL p x.cs:=by simp[IvV.cs,DyV.cs,AllL,AV.All]
theorem aPr{l:List IvV}:(ql IvV.cs l).length=l.length*6:=y5 aUf
theorem aPq{ρ:Nat→Nat}{l:List IvV}:zN ρ (ql IvV.cs l)=ql IvV.cs l:=ZR aJi
theorem aGk{hp:Nat→Ob}{k:Nat}{l:List IvV}:(ql IvV.cs l).map (qG hp (k+1))=ql IvV.cs l:=Qm ass
theorem aPs{p:Nat→Prop}{l:List IvV}:AllL p (ql IvV.cs l)=True:=eq_true (ZS aJj)
theorem aGl{p:Nat→Prop}{x:IvV}:AllL p x.cs=True:=eq_true (aJj x)
attribute [go_sem] aPr aPq aGk aPs aGl aJi ass
end Go.Ab
namespace Go.Ab
open Go Go.Proofs
section
variable (g:Nat)(p:IvV→Bool)
end
end Go.Ab
namespace Go.Ab
open Go Go.Proofs
/-! ### Intervals that were drawn,and those that are valid-/
def DyV.ex(d:DyV):ExV:=⟨d.s,(vl d.xs).toNat,d.e⟩
def ExV.dyv(x:ExV):DyV:=⟨x.s,lim x.m,x.e⟩
theorem bhX(x:ExV):x.dyv.ex=x:=by unfold ExV.dyv DyV.ex;rw[zd,Int.toNat_natCast]
theorem aYI{d:DyV}(h:d.ok=true):d=d.ex.dyv∧d.ex.ok=true:=by
 obtain⟨s,xs,e⟩:=d
 obtain⟨m,hm, -⟩:=Jk (show dyB s xs e=true from h)
 subst hm
 have e1:(DyV.mk s (lim m) e).ex=⟨s,m,e⟩:=bhX ⟨s,m,e⟩
 rw[e1]
 exact⟨rfl,h⟩
def ivB(v:IvV):Bool:=v.lo.ok&&(v.hi.ok&&decide (v.lo.ex.val 3000≤v.hi.ex.val 3000))
def IvV.sp(v:IvV):SpV:=⟨v.lo.ex,v.hi.ex⟩
def SpV.iv(s:SpV):IvV:=⟨s.lo.dyv,s.hi.dyv⟩
def SpV.ok(s:SpV):Bool:=s.lo.ok&&(s.hi.ok&&decide (s.lo.val 3000≤s.hi.val 3000))
theorem aQP{K:Nat}{x y:ExV}(h1: -(K:Int)≤x.e)(h2: -(K:Int)≤y.e):x.cmp y=zH (x.val K) (y.val K):=by
 unfold ExV.cmp
 exact agF h1 h2
def blN(v:IvV):Prop:=v.lo.xs.length≤1000∧v.hi.xs.length≤1000
def aPe(s t:SpV):SpV:=⟨zx [s.lo,t.lo],jy [s.hi,t.hi]⟩
def blc(s t:SpV):SpV:=⟨jy [s.lo,t.lo],zx [s.hi,t.hi]⟩
def SpV.tel(s:SpV):SpV:=if s.fit=true then s.can else sp0
def bk9(s t:SpV):SpV:=if(aPe s t).lo.val 3000≤(aPe s t).hi.val 3000 then aPe s t else sp0
def blE(s:SpV)(x:ExV):Bool:=decide (s.lo.val 3000≤x.val 3000)&&decide (x.val 3000≤s.hi.val 3000)
end Go.Ab
namespace Go.Ab
open Go Go.Proofs
/-! ### Matrices that were drawn,and those that are valid-/
structure matV(n:Nat)(L:List ExV):Prop where
 n1:1≤n
 n4:n≤4
 len:L.length=n*n
 ok:∀x∈L,x.ok=true
theorem aJe{k:Int}{M:List DyV}(h:YM k M=true):∃(n:Nat) (L:List ExV),k=n∧M=L.map ExV.dyv∧matV n L:=by
 simp only[YM,Bool.and_eq_true,decide_eq_true_eq,List.all_eq_true]at h
 obtain⟨⟨h1,h2⟩,h3,h4⟩:=h
 obtain⟨n,rfl⟩:=Int.eq_ofNat_of_zero_le (show 0≤k by omega)
 have hm:M=(M.map DyV.ex).map ExV.dyv:=by
  rw[List.map_map]
  conv=>lhs;rw[←List.map_id M]
  exact List.map_congr_left fun d hd=>(aYI (h4 d hd)).1
 refine⟨n,M.map DyV.ex,rfl,hm,by omega,by omega,?_,fun x hx=>?_⟩
 ·rw[List.length_map];exact_mod_cast h3
 ·obtain⟨d,hd,rfl⟩:=List.mem_map.1 hx
  exact(aYI (h4 d hd)).2
theorem jY(L:List ExV):ql DyV.cs (L.map ExV.dyv)=ql ExV.cs L:=by unfold ql;rw[List.map_map];rfl
theorem matV.bd{n:Nat}{L:List ExV}(h:matV n L):gbd (-3000) 4600 L:=fun x hx=>aOE (h.ok x hx)
theorem matV.bd4{n:Nat}{L:List ExV}(h:matV n L):gbd (-400000) 400000 L:=fun x hx=>(aOE (h.ok x hx)).mono (by omega) (by omega)
theorem matV.bd3{n:Nat}{L:List ExV}(h:matV n L):gbd (-190000) 190000 L:=fun x hx=>(aOE (h.ok x hx)).mono (by omega) (by omega)
theorem matV.l16{n:Nat}{L:List ExV}(h:matV n L):L.length≤16:=by rw[h.len];exact jv h.n4
theorem Q6(n:Nat)(L:List ExV)(h:matV n L):Con Tryz.prog 73 true [.ag [.v (.int .i64 (n)),.sl (L).length (ql ExV.cs (L))]] [] (isA (.v (.bool true))):=by
 have c:=Ys n L (by have:=h.l16;omega) (fun x hx=>by have:=(yq (h.ok x hx)).2.2.1;omega)
 rw[show aJf n L=true by
  unfold aJf
  simp only[Bool.and_eq_true,decide_eq_true_eq,List.all_eq_true]
  exact⟨⟨by have:=h.n1;omega,by have:=h.n4;omega⟩,by rw[h.len,Int.natCast_mul],h.ok⟩]at c
 exact c
theorem amb(k:Int)(M:List DyV)(h1:M.length≤16)(h2:∀d∈M,d.xs.length≤200):Con Tryz.prog 73 true [.ag [.v (.int .i64 k),.sl M.length (ql DyV.cs M)]] [] (isA (.v (.bool (YM k M)))):=
 abo k M (by omega) fun d hd=>by have:=h2 d hd;omega
theorem aQO(x:ExV)(hx:x.bd (-400000) 400000):Con Tryz.prog 92 false [.ag [.v (.bool (x).s),.sl (lim (x).m).length (qc (lim (x).m)),.v (.int .i64 (x).e)]] [] (isA (.tu [.ag [.v (.bool (x.tel).s),.sl (lim (x.tel).m).length (qc (lim (x.tel).m)),.v (.int .i64 (x.tel).e)],.v (.bool x.fit)])):=by
 have c:=Jy x hx
 unfold ExV.tel
 cases hf:x.fit<;>rw[hf]at c<;>exact c
def gN(n:Nat)(l:List ExV):Nat:=if l.all ExV.fit=true then n else 0
def gT(l:List ExV):List ExV:=if l.all ExV.fit=true then l.map ExV.can else []
theorem aUn{n:Nat}{l:List ExV}(h1:1≤n)(h4:n≤4)(hl:l.length=n*n)(h:l.all ExV.fit=true):gN n l=n∧gT l=l.map ExV.can∧matV n (l.map ExV.can):=by
 refine⟨if_pos h,if_pos h,h1,h4,by rw[List.length_map];exact hl,fun x hx=>?_⟩
 obtain⟨y,hy,rfl⟩:=List.mem_map.1 hx
 exact abv (List.all_eq_true.1 h y hy)
theorem abl(n n':Nat)(L L':List ExV)(h:matV n L)(h':matV n' L'):Con Tryz.prog 97 true [.ag [.v (.int .i64 (n)),.sl (L).length (ql ExV.cs (L))],.ag [.v (.int .i64 (n')),.sl (L').length (ql ExV.cs (L'))]] [] (isA (.v (.bool (decide (n=n'))))):=by
 refine Con.of_aw Tryz.func97 rfl Tryz.ntmps97 (by simp) (by simp) (by simp) (W.sound ?_)
 show @W Tryz.prog 18 ⟨_⟩ ⟨fun x σ=>@q9 _ _ _ ⟨_⟩ _ ⟨_⟩ x σ⟩ _ _
 simp(disch:=omega)only[go_sem]
 refine qn (Q6 n L h) ?_
 simp(disch:=omega)only[go_sem]
 refine qn (Q6 n' L' h') ?_
 simp(disch:=omega)only[go_sem]
 refine qA (by simp(disch:=omega)only[go_sem]) (by simp(disch:=omega)only[go_sem]) ⟨?_,rfl,rfl⟩
 show AV.v (.bool _)=AV.v (.bool _)
 congr 2
 exact decide_eq_decide.2 ⟨fun h=>by omega,fun h=>by omega⟩
def blZ(k:Int)(M:List DyV)(k':Int)(M':List DyV):Bool:=YM k M&&(YM k' M'&&decide (k=k'))
theorem Jf{n:Nat}{L L':List ExV}{lo hi:Int}(hl:L.length=n*n)(hl':L'.length=n*n)(hb:gbd lo hi L)(hb':gbd lo hi L'):gbd lo (hi+1) (jC n L L'):=
 aaQ fun i j hi hj=>ExV.plus_bd (qJ hb (by rw[hl];exact qS hi hj)) (qJ hb' (by rw[hl'];exact qS hi hj))
theorem alt{n:Nat}{L L':List ExV}{lo hi:Int}(hl:L.length=n*n)(hl':L'.length=n*n)(hb:gbd lo hi L)(hb':gbd lo hi L'):gbd lo (hi+1) (jt n L L'):=
 aaQ fun i j hi hj=>ExV.plus_bd (qJ hb (by rw[hl];exact qS hi hj)) (ExV.neg_bd (qJ hb' (by rw[hl'];exact qS hi hj)))
end Go.Ab
namespace Go.Ab
/-! ### Sums and greatest ones of whole numbers-/
def qD(f:Nat→Int):Nat→Int
 |0=>0
 |k+1=>qD f k+f k
def JN(f:Nat→Int):Nat→Int
 |0=>0
 |k+1=>if JN f k<f k then f k else JN f k
theorem qI{f g:Nat→Int}:∀{k:Nat},(∀i,i<k→f i=g i)→qD f k=qD g k
 |0,_=>rfl
 |k+1,h=>by rw[qD,qD,qI fun i hi=>h i (by omega),h k (by omega)]
theorem ZL(f g:Nat→Int):∀k:Nat,qD (fun i=>f i+g i) k=qD f k+qD g k
 |0=>rfl
 |k+1=>by rw[qD,qD,qD,ZL f g k];omega
theorem JX(f:Nat→Int)(c:Int):∀k:Nat,qD (fun i=>f i*c) k=qD f k*c
 |0=>by simp[qD]
 |k+1=>by rw[qD,qD,JX f c k,Int.add_mul]
theorem yF(f:Nat→Int)(c:Int):∀k:Nat,qD (fun i=>c*f i) k=c*qD f k
 |0=>by simp[qD]
 |k+1=>by rw[qD,qD,yF f c k,Int.mul_add]
theorem QS:∀k:Nat,qD (fun _=>0) k=0
 |0=>rfl
 |k+1=>by rw[qD,QS k];rfl
theorem JY(g:Nat→Nat→Int)(m:Nat):∀k:Nat,qD (fun i=>qD (fun t=>g i t) m) k=qD (fun t=>qD (fun i=>g i t) k) m
 |0=>(QS m).symm
 |k+1=>by
  rw[qD,JY g m k,←ZL]
  exact qI fun t _=>rfl
theorem jq{f:Nat→Int}{j:Nat}:∀{k:Nat},j<k→(∀i,i<k→i≠j→f i=0)→qD f k=f j
 |0,h,_=>by omega
 |k+1,h,h2=>by
  rw[qD]
  by_cases hj:j=k
  ·subst hj
   have:qD f j=qD (fun _=>0) j:=qI fun i hi=>h2 i (by omega) (by omega)
   rw[this,QS];omega
  ·rw[jq (by omega) (fun i hi=>h2 i (by omega)),h2 k (by omega) (by omega)];omega
theorem Z3{f g:Nat→Int}:∀{k:Nat},(∀i,i<k→f i=g i)→JN f k=JN g k
 |0,_=>rfl
 |k+1,h=>by rw[JN,JN,Z3 fun i hi=>h i (by omega),h k (by omega)]
def nrm(A:Nat→Nat→Int)(n:Nat):Int:=JN (fun j=>qD (fun i=>((A i j).natAbs:Int)) n) n
end Go.Ab
namespace Go.Ab
open Go Go.Proofs
/-! ### What matrices tell-/
def mv(K:Nat)(L:List ExV)(n i j:Nat):Int:=(L.getD (i*n+j) ex0).val K
def eK(K:Nat)(L:List ExV):Prop:=∀x∈L, -(K:Int)≤x.e
theorem aaY{K:Nat}{L:List ExV}{i:Nat}(h:eK K L)(hi:i<L.length): -(K:Int)≤(L.getD i ex0).e:=by
 rw[List.getD_eq_getElem?_getD,List.getElem?_eq_getElem hi]
 exact h _ (List.getElem_mem hi)
theorem matV.eK{n:Nat}{L:List ExV}(h:matV n L){K:Nat}(hK:3000≤K):eK K L:=fun x hx=>by have:=(yq (h.ok x hx)).1;omega
theorem afg(K:Nat):ex0.val K=0:=Q1
theorem agE{K n:Nat}{L:List ExV}{j:Nat}(hK:eK K L)(hl:L.length=n*n)(hj:j<n):∀k,k≤n→(abG n L j k).val K=qD (fun i=>((mv K L n i j).natAbs:Int)) k∧ -(K:Int)≤(abG n L j k).e
 |0,_=>⟨afg K,by show-(K:Int)≤0;omega⟩
 |k+1,hk=>by
  obtain⟨h1,h2⟩:=agE hK hl hj k (by omega)
  have h3:=aaY hK (i:=k*n+j) (by rw[hl];exact qS (by omega) hj)
  rw[abr]
  refine⟨?_,aaw h2 h3⟩
  rw[Qo (y:=ExV.abs _) h2 h3,h1,aRA];rfl
theorem ZZ{K n:Nat}{L:List ExV}(hK:eK K L)(hl:L.length=n*n):∀k,k≤n→(je n L k).val K=JN (fun j=>qD (fun i=>((mv K L n i j).natAbs:Int)) n) k∧ -(K:Int)≤(je n L k).e
 |0,_=>⟨afg K,by show-(K:Int)≤0;omega⟩
 |k+1,hk=>by
  obtain⟨h1,h2⟩:=ZZ hK hl k (by omega)
  obtain⟨h3,h4⟩:=agE hK hl (show k<n by omega) n (Nat.le_refl n)
  rw[QV]
  show(yt (je n L k) (abG n L k n)).val K=_∧_≤(yt (je n L k) (abG n L k n)).e
  unfold yt
  rw[aQP h4 h2,h3,h1,JN]
  by_cases h:JN (fun j=>qD (fun i=>((mv K L n i j).natAbs:Int)) n) k<qD (fun i=>((mv K L n i k).natAbs:Int)) n
  ·rw[if_pos h,if_pos (by unfold zH;rw[if_neg (by omega),if_pos h];omega)]
   exact⟨h3,h4⟩
  ·rw[if_neg h,if_neg (by unfold zH;split<;>(try split)<;>omega)]
   exact⟨h1,h2⟩
theorem ar5{n i j:Nat}(hj:j<n):(i*n+j)/n=i∧(i*n+j) % n=j:=by
 constructor
 ·rw[Nat.mul_comm,Nat.mul_add_div (by omega),Nat.div_eq_of_lt hj,Nat.add_zero]
 ·rw[Nat.mul_comm,Nat.mul_add_mod,Nat.mod_eq_of_lt hj]
theorem aUl{n:Nat}{g:Nat→Nat→ExV}{i j:Nat}(hi:i<n)(hj:j<n):(gl n g (n*n)).getD (i*n+j) ex0=g i j:=by
 rw[aUm (qS hi hj),(ar5 hj).1,(ar5 hj).2]
theorem aPf{L:List ExV}{k:Nat}(hk:k<L.length):(L.map ExV.can).getD k ex0=(L.getD k ex0).can:=by
 rw[List.getD_eq_getElem?_getD,List.getElem?_eq_getElem (by rw[List.length_map];exact hk),List.getD_eq_getElem?_getD,List.getElem?_eq_getElem hk]
 simp
theorem agz{K K' n:Nat}{L L':List ExV}{i j:Nat}(h:eK K L)(h':eK K' L')(hl:L.length=n*n)(hl':L'.length=n*n)(hi:i<n)(hj:j<n):∀k,k≤n→(QM n L L' i j k).val (K+K')=qD (fun t=>mv K L n i t*mv K' L' n t j) k∧ -((K+K':Nat):Int)≤(QM n L L' i j k).e
 |0,_=>⟨afg _,by show-((K+K':Nat):Int)≤0;omega⟩
 |k+1,hk=>by
  obtain⟨h1,h2⟩:=agz h h' hl hl' hi hj k (by omega)
  have a:=aaY h (i:=i*n+k) (by rw[hl];exact qS hi (by omega))
  have b:=aaY h' (i:=k*n+j) (by rw[hl'];exact qS (by omega) hj)
  rw[Jn]
  have c: -((K+K':Nat):Int)≤((L.getD (i*n+k) ex0).times (L'.getD (k*n+j) ex0)).e:=by show _≤(L.getD (i*n+k) ex0).e+(L'.getD (k*n+j) ex0).e;omega
  refine⟨?_,aaw h2 c⟩
  rw[Qo h2 c,h1,amE a b];rfl
end Go.Ab
namespace Go.Ab
open Go Go.Proofs
def blV(l:List UInt8)(i h:Int):Ob:=.own 0 [.sl l.length (qk l),.v (.int .i64 i),.v (.int .i64 h)]
def Yd(l:List UInt8)(Q:AV→Prop):AV→List Ob→List Ob→Prop:=fun r hs bs=>hs=[]∧Q r∧∃i h:Int,(0≤i∧i≤l.length)∧bs=[.own 0 [.sl l.length (qk l),.v (.int .i64 i),.v (.int .i64 h)]]
section
variable {P:Program}{N f c:Nat}{aa0 args:List AV}{hp:Nat→Ob}{K:KV}{Q:AV→Prop}{e:Nat→AV}{l:List UInt8}{i h:Int}
theorem qu{n:Nat}(hc:Con P f false (.pt 10000000 0::args) [.own 0 [.sl l.length (qk l),.v (.int .i64 i),.v (.int .i64 h)]] (Yd l Q))
  (hk:∀(r:AV) (i' h':Int),(0≤i'∧i'≤l.length)→Q r→K (r.ren (rho c [n])) (upd hp n (.own 0 [.sl l.length (qk l),.v (.int .i64 i'),.v (.int .i64 h')])))
  (ha:aa0.map (snp (hpx false [n] hp) (idx [n]) 6)=args:=by simp(disch:=omega)only[go_sem]) (hn:hp n=.own 0 [.sl l.length (qk l),.v (.int .i64 i),.v (.int .i64 h)]:=by simp(disch:=omega)only[go_sem]):@JS P f (.pt n 0::aa0) hp c ⟨K⟩:=by
 refine QH false [n] hc (by rw[List.map_cons,ha];simp[snp,idx]) (by rw[Z5,hn];rfl) rfl (qX hn (by simp[AllL,AV.All])) (by intro m hm;rw[List.mem_singleton.1 hm];exact⟨_,List.mem_cons_self ..,rfl⟩) ?_
 rintro r hs bs ⟨rfl,hq,i',h',hi',rfl⟩-
 exact⟨⟨by simp,trivial,fun h=>by cases h⟩,hk r i' h' hi' hq⟩
theorem aJh{ks:List Nat}:∀{l:List AV},AllL (ym []) l→leL [] ks l l
 | [],_=>trivial
 |a::r,h=>⟨⟨arI a,h.1.mono fun _ h=>h.elim⟩,aJh h.2⟩
theorem qR{vs:List AV}(i h:Int)(hq:Q (zl vs))(hi:0≤i∧i≤l.length:=by omega)(hh:hp 10000000=.own 0 [.sl l.length (qk l),.v (.int .i64 i),.v (.int .i64 h)]:=by simp(disch:=omega)only[go_sem])
  (hl:AllL (ym []) vs:=by simp(disch:=omega)only[go_sem]):@aJn N false 1 ⟨Yd l Q⟩ ⟨e⟩ vs hp:=
 qi [] [] [.own 0 [.sl l.length (qk l),.v (.int .i64 i),.v (.int .i64 h)]] vs rfl (aJh hl) ⟨⟨hh.symm,by simp[Ob.men,AllL,AV.All],trivial⟩,trivial⟩ ⟨rfl,by simp,by simp⟩ (fun h=>by cases h) ⟨rfl,hq,i,h,hi,rfl⟩
end
def biJ(l:List UInt8)(xs:List Int)(Q:AV→Prop):AV→List Ob→List Ob→Prop:=fun r hs bs=>hs=[]∧Q r∧∃i h:Int,(0≤i∧i≤l.length)∧bs=[.own 0 [.sl l.length (qk l),.v (.int .i64 i),.v (.int .i64 h)],.own 1 (qc xs)]
section
variable {P:Program}{N f c:Nat}{aa0 args:List AV}{hp:Nat→Ob}{K:KV}{Q:AV→Prop}{e:Nat→AV}{l:List UInt8}{i h:Int}
theorem zA{n m k:Nat}{xs:List Int}(hc:Con P f false [.pt 10000000 0,.rf 10000001 0 xs.length] [.own 0 [.sl l.length (qk l),.v (.int .i64 i),.v (.int .i64 h)],.own 1 (qc xs)] (biJ l xs Q))
  (hk:∀(r:AV) (i' h':Int),(0≤i'∧i'≤l.length)→Q r→K (r.ren (rho c [n,m])) (upd (upd hp n (.own 0 [.sl l.length (qk l),.v (.int .i64 i'),.v (.int .i64 h')])) m (.own 1 (qc xs))))
  (hx:xs.length=k:=by rfl)
  (hn:hp n=.own 0 [.sl l.length (qk l),.v (.int .i64 i),.v (.int .i64 h)]:=by simp(disch:=omega)only[go_sem]) (hm:hp m=.own 1 (qc xs):=by simp(disch:=omega)only[go_sem];rfl)
  (hd:Zc [n,m]=true:=by rfl):@JS P f [.pt n 0,.rf m 0 k] hp c ⟨K⟩:=by
 have hnm:¬m=n:=by
  have:=(jK hd)
  simp only[List.nodup_cons,List.mem_singleton]at this
  exact fun h=>this.1 h.symm
 subst hx
 refine QH false [n,m] hc (by simp[snp,idx,hnm]) (by rw[Z5,Z5,hn,hm];simp only[Ob.ren,ZT,Z5];rfl) hd (aGg hn (by simp[AllL,AV.All]) hm Zy) (by intro q hq;simp only[List.mem_cons,List.not_mem_nil,or_false]at hq;rcases hq with rfl|rfl<;>simp[AV.top]) ?_
 rintro r hs bs ⟨rfl,hq,i',h',hi',rfl⟩-
 refine⟨⟨by simp,trivial,fun h=>by cases h⟩,?_⟩
 have:=hk r i' h' hi' hq
 simp only[List.map_cons,List.map_nil,Ob.ren,ZT]
 exact this
end
section
variable (l:List UInt8)(hl:l.length≤9223372036854775807)(i h:Int)(hi:0≤i∧i≤l.length)
include hl hi
theorem jQ:Con Tryz.prog 243 false [.pt 10000000 0] [.own 0 [.sl l.length (qk l),.v (.int .i64 i),.v (.int .i64 h)]] (Yd l fun r=>∃k:Int,(0≤k∧k≤255)∧r=.v (.int .i64 k)):=by
 refine Con.of_aw Tryz.func243 rfl Tryz.ntmps243 (by simp) (by simp) (by simp) (W.sound ?_)
 show @W Tryz.prog 58 ⟨_⟩ ⟨fun x σ=>@q9 _ _ _ ⟨_⟩ _ ⟨_⟩ x σ⟩ _ _
 simp(disch:=omega)only[go_sem]
 generalize IntKind.i64.wrap (IntKind.i64.wrap (h*6364136223846793005)+1442695040888963407)=h1
 refine qs rfl [⟨0,[],[]⟩,⟨1,[],[]⟩,⟨2,[],[]⟩,⟨3,[],[]⟩,⟨4,[],[]⟩,⟨5,[3],[]⟩,⟨6,[3],[]⟩,⟨7,[3],[]⟩,⟨8,[3],[]⟩,⟨9,[3],[]⟩,⟨10,[],[]⟩,⟨11,[],[]⟩,⟨12,[],[]⟩] (by kernel_rfl) ?_
 simp(disch:=omega)only[go_sem]
 generalize bix (h1.fdiv (2^min 33 64)) (h1.fdiv (2^min 45 64))=y
 have hy:0≤y % 256∧y % 256<256:=by omega
 generalize y % 256=x at*
 refine qs rfl [⟨0,[],[]⟩,⟨1,[],[]⟩,⟨2,[],[]⟩,⟨3,[],[]⟩,⟨4,[3],[]⟩,⟨5,[3],[]⟩,⟨6,[3],[]⟩,⟨7,[3],[]⟩,⟨8,[3],[]⟩,⟨9,[],[]⟩] (by kernel_rfl) ?_
 simp(disch:=omega)only[go_sem]
 refine qe (fun c1=>?_) (fun c1=>?_)
 ·simp(disch:=omega)only[go_sem,c1]
  refine qs rfl [⟨0,[],[]⟩,⟨1,[],[]⟩,⟨2,[],[]⟩,⟨3,[],[]⟩,⟨4,[],[]⟩,⟨5,[4],[]⟩,⟨6,[4],[]⟩,⟨7,[4],[]⟩,⟨8,[4],[]⟩,⟨9,[],[]⟩,⟨10,[],[]⟩,⟨11,[],[]⟩,⟨12,[],[]⟩,⟨13,[],[]⟩,⟨14,[],[]⟩] (by kernel_rfl) ?_
  simp(disch:=omega)only[go_sem]
  refine⟨by omega,by omega,?_⟩
  generalize IntKind.i64.wrap (x+IntKind.i64.wrap ((l.getD i.toNat 0).toNat:Int))=y2
  have hy2:0≤y2 % 256∧y2 % 256<256:=by omega
  refine qR (i+1) (h1) ⟨_,by omega,rfl⟩
 ·simp(disch:=omega)only[go_sem,c1]
  refine qR (i) (h1) ⟨_,by omega,rfl⟩
theorem qN(n:Int)(hn:n≤2^62):Con Tryz.prog 155 false [.pt 10000000 0,.v (.int .i64 n)] [.own 0 [.sl l.length (qk l),.v (.int .i64 i),.v (.int .i64 h)]] (Yd l fun r=>∃k:Int,(0≤k∧(0<n→k<n))∧r=.v (.int .i64 k)):=by
 refine Con.of_aw Tryz.func155 rfl Tryz.ntmps155 (by simp) (by simp) (by simp) (W.sound ?_)
 show @W Tryz.prog 37 ⟨_⟩ ⟨fun x σ=>@q9 _ _ _ ⟨_⟩ _ ⟨_⟩ x σ⟩ _ _
 simp(disch:=omega)only[go_sem]
 refine qe (fun c1=>?_) (fun c1=>?_)
 ·simp(disch:=omega)only[go_sem,c1]
  refine qR (i) (h) ⟨_,⟨by omega,fun h=>by omega⟩,rfl⟩
 ·simp(disch:=omega)only[go_sem,c1]
  refine qe (fun c2=>?_) (fun c2=>?_)
  ·simp(disch:=omega)only[go_sem,c2]
   refine qu (jQ l hl i h hi) ?_
   rintro r i1 h1 hi1 ⟨k1,hk1,rfl⟩
   simp(disch:=omega)only[go_sem]
   refine⟨by omega,?_⟩
   have hm:=Int.emod_nonneg k1 (show n≠0 by omega)
   have hm2:=Int.emod_lt_of_pos k1 (show 0<n by omega)
   refine qR (i1) (h1) ⟨_,⟨hm,fun _=>hm2⟩,rfl⟩
  ·simp(disch:=omega)only[go_sem,c2]
   refine qu (jQ l hl i h hi) ?_
   rintro r i1 h1 hi1 ⟨k1,hk1,rfl⟩
   simp(disch:=omega)only[go_sem]
   refine qu (jQ l hl i1 h1 hi1) ?_
   rintro r i2 h2 hi2 ⟨k2,hk2,rfl⟩
   simp(disch:=omega)only[go_sem]
   refine qu (jQ l hl i2 h2 hi2) ?_
   rintro r i3 h3 hi3 ⟨k3,hk3,rfl⟩
   simp(disch:=omega)only[go_sem]
   refine qu (jQ l hl i3 h3 hi3) ?_
   rintro r i4 h4 hi4 ⟨k4,hk4,rfl⟩
   simp(disch:=omega)only[go_sem]
   refine⟨by omega,?_⟩
   have hm:=Int.emod_nonneg (k1*16777216+k2*65536+k3*256+k4) (show n≠0 by omega)
   have hm2:=Int.emod_lt_of_pos (k1*16777216+k2*65536+k3*256+k4) (show 0<n by omega)
   refine qR (i4) (h4) ⟨_,⟨hm,fun _=>hm2⟩,rfl⟩
theorem qQ(n:Int)(hn:n≤2^62):Con Tryz.prog 99 false [.pt 10000000 0,.v (.int .i64 n)] [.own 0 [.sl l.length (qk l),.v (.int .i64 i),.v (.int .i64 h)]] (Yd l fun r=>∃b:Bool,r=.v (.bool b)):=by
 refine Con.of_aw Tryz.func99 rfl Tryz.ntmps99 (by simp) (by simp) (by simp) (W.sound ?_)
 show @W Tryz.prog 9 ⟨_⟩ ⟨fun x σ=>@q9 _ _ _ ⟨_⟩ _ ⟨_⟩ x σ⟩ _ _
 simp(disch:=omega)only[go_sem]
 refine qu (qN l hl i h hi n hn) ?_
 rintro r i1 h1 hi1 ⟨k1,hk1,rfl⟩
 simp(disch:=omega)only[go_sem]
 refine qR (i1) (h1) ⟨_,rfl⟩
theorem qP(xs:List Int)(h0:0<xs.length)(h1:xs.length≤2^40):Con Tryz.prog 101 false [.pt 10000000 0,.rf 10000001 0 xs.length] [.own 0 [.sl l.length (qk l),.v (.int .i64 i),.v (.int .i64 h)],.own 1 (qc xs)] (biJ l xs fun r=>∃x∈xs,r=.v (.int .i64 x)):=by
 refine Con.of_aw Tryz.func101 rfl Tryz.ntmps101 (by simp) (by simp) (by simp) (W.sound ?_)
 show @W Tryz.prog 12 ⟨_⟩ ⟨fun x σ=>@q9 _ _ _ ⟨_⟩ _ ⟨_⟩ x σ⟩ _ _
 simp(disch:=omega)only[go_sem]
 refine qu (qN l hl i h hi xs.length (by omega)) ?_
 rintro r i1 h1 hi1 ⟨k1,hk1,rfl⟩
 simp(disch:=omega)only[go_sem]
 obtain⟨n1,rfl⟩:=Int.eq_ofNat_of_zero_le hk1.1
 have hlt:n1<xs.length:=by have:=hk1.2 (by omega);omega
 simp(disch:=omega)only[go_sem]
 refine⟨by omega,by omega,?_⟩
 have hm:xs.getD n1 0∈xs:=by rw[List.getD_eq_getElem?_getD,List.getElem?_eq_getElem hlt];exact List.getElem_mem _
 refine qi [] [] [.own 0 [.sl l.length (qk l),.v (.int .i64 i1),.v (.int .i64 h1)],.own 1 (qc xs)] [.v (.int .i64 (xs.getD n1 0))] rfl (by simp(disch:=omega)only[go_sem]) (by simp(disch:=omega)only[go_sem]) (by simp) (by simp) ⟨rfl,⟨_,hm,rfl⟩,_,_,by omega,rfl⟩
end
end Go.Ab
namespace Go.Ab
open Go Go.Proofs
section
variable (l:List UInt8)(hl:l.length≤9223372036854775807)(i h:Int)(hi:0≤i∧i≤l.length)
include hl hi
theorem Xb:Con Tryz.prog 326 false [.pt 10000000 0] [.own 0 [.sl l.length (qk l),.v (.int .i64 i),.v (.int .i64 h)]] (Yd l fun r=>∃k:Int,(0≤k∧k≤100)∧r=.v (.int .i64 k)):=by
 refine Con.of_aw Tryz.func326 rfl Tryz.ntmps326 (by simp) (by simp) (by simp) (W.sound ?_)
 show @W Tryz.prog 10 ⟨_⟩ ⟨fun x σ=>@q9 _ _ _ ⟨_⟩ _ ⟨_⟩ x σ⟩ _ _
 simp(disch:=omega)only[go_sem]
 refine qu (qQ l hl i h hi 12 (by omega)) ?_
 rintro r i1 h1 hi1 ⟨b,rfl⟩
 simp(disch:=omega)only[go_sem]
 cases b
 ·simp(disch:=omega)only[go_sem]
  refine qu (qN l hl i1 h1 hi1 6 (by omega)) ?_
  rintro r i2 h2 hi2 ⟨k,hk,rfl⟩
  simp(disch:=omega)only[go_sem]
  have:=hk.2 (by omega)
  refine qR (i2) (h2) ⟨_,by omega,rfl⟩
 ·simp(disch:=omega)only[go_sem]
  refine zA (qP l hl i1 h1 hi1 [100,99,50,20] (by simp) (by simp)) ?_
  rintro r i2 h2 hi2 ⟨x,hx,rfl⟩
  have hx_b:0≤x∧x≤100:=by
   simp only[List.mem_cons,List.not_mem_nil,or_false]at hx
   omega
  clear hx
  simp(disch:=omega)only[go_sem]
  refine qR (i2) (h2) ⟨_,by omega,rfl⟩
theorem Yq:Con Tryz.prog 312 false [.pt 10000000 0] [.own 0 [.sl l.length (qk l),.v (.int .i64 i),.v (.int .i64 h)]] (fun r hs bs=>(∃m:Nat,bl m≤1600∧aF9 m r hs [])∧∃i h:Int,(0≤i∧i≤l.length)∧bs=[.own 0 [.sl l.length (qk l),.v (.int .i64 i),.v (.int .i64 h)]]):=by
 refine Con.of_aw Tryz.func312 rfl Tryz.ntmps312 (by simp) (by simp) (by simp) (W.sound ?_)
 show @W Tryz.prog 38 ⟨_⟩ ⟨fun x σ=>@q9 _ _ _ ⟨_⟩ _ ⟨_⟩ x σ⟩ _ _
 simp(disch:=omega)only[go_sem]
 refine qu (Xb l hl i h hi) ?_
 rintro r i1 h1 hi1 ⟨k,hk,rfl⟩
 simp(disch:=omega)only[go_sem]
 refine qh (fun x:Nat×List Int×Int×Int=>[(0,.pt 10000000 0),(2,.pt 2 0),(3,.rf 1 0 x.2.1.length),(4,.v (.int .i64 k)),(5,.v (.int .i64 x.1))])
  (fun x=>[(1,.own 1 (qc x.2.1)),(2,.own 0 [.v (.slice none 0 0)]),(10000000,.own 0 [.sl l.length (qk l),.v (.int .i64 x.2.2.1),.v (.int .i64 x.2.2.2)])])
  (fun x=>x.1≤k.toNat∧x.2.1.length=x.1∧gd x.2.1∧(0≤x.2.2.1∧x.2.2.1≤l.length)) (fun x=>k.toNat-x.1) (0,[],i1,h1) ⟨by simp,rfl,by simp[gd],hi1⟩
  ((Le.ghost 3 1 1 (by simp(disch:=omega)only[go_sem]) (by simp(disch:=omega)only[go_sem])).trans (Le.lst [(2,40000000)] _ _ rfl (by simp(disch:=omega)only[go_sem]) (by simp(disch:=omega)only[go_sem]))) ?_
 rintro⟨j,xs,i2,h2⟩ ⟨hj,hxl,hg,hi2⟩
 dsimp only at hj hxl hg hi2 ⊢
 simp(disch:=omega)only[go_sem]
 refine qe (fun c1=>?_) (fun c1=>?_)
 ·simp(disch:=omega)only[go_sem,c1]
  refine qu (qN l hl i2 h2 hi2 4 (by omega)) ?_
  rintro r i3 h3 hi3 ⟨q,hq,rfl⟩
  simp(disch:=omega)only[go_sem]
  by_cases q0:q=0
  ·simp(disch:=omega)only[go_sem,q0]
   exact⟨by omega,qb (j+1,xs++[65535],i3,h3) [(1,260000000)] ⟨by dsimp only;omega,by simp[hxl],qH.2 ⟨hg,by simp[gd]⟩,hi3⟩ (by show k.toNat-(j+1)<k.toNat-j;omega) rfl (by simp(disch:=omega)only[go_sem,List.length_append];try omega) (by simp(disch:=omega)only[go_sem])⟩
  by_cases q1:q=1
  ·simp(disch:=omega)only[go_sem,q0,q1]
   exact⟨by omega,qb (j+1,xs++[0],i3,h3) [(1,310000000)] ⟨by dsimp only;omega,by simp[hxl],qH.2 ⟨hg,by simp[gd]⟩,hi3⟩ (by show k.toNat-(j+1)<k.toNat-j;omega) rfl (by simp(disch:=omega)only[go_sem,List.length_append];try omega) (by simp(disch:=omega)only[go_sem])⟩
  simp(disch:=omega)only[go_sem,q0,q1]
  refine qu (qN l hl i3 h3 hi3 65536 (by omega)) ?_
  rintro r i4 h4 hi4 ⟨d,hd,rfl⟩
  simp(disch:=omega)only[go_sem]
  have hd2:=hd.2 (by omega)
  exact⟨by omega,qb (j+1,xs++[d],i4,h4) [(1,210000000)] ⟨by dsimp only;omega,by simp[hxl],qH.2 ⟨hg,QX.2 ⟨by omega,by simp[gd]⟩⟩,hi4⟩ (by show k.toNat-(j+1)<k.toNat-j;omega) rfl (by simp(disch:=omega)only[go_sem,List.length_append];try omega) (by simp(disch:=omega)only[go_sem])⟩
 ·simp(disch:=omega)only[go_sem,c1]
  refine qu (qQ l hl i2 h2 hi2 4 (by omega)) ?_
  rintro r i3 h3 hi3 ⟨b,rfl⟩
  simp(disch:=omega)only[go_sem]
  cases b
  ·simp(disch:=omega)only[go_sem]
   have hv:vl xs=((vl xs).toNat:Int):=(Int.toNat_of_nonneg (qW hg)).symm
   have hb:bl (vl xs).toNat≤1600:=by
    refine zB.2 ?_
    have h1:=QN hg
    have h2:(65536:Int)^xs.length≤65536^100:=by
     rw[show(65536:Int)=((65536:Nat):Int) from rfl,←Int.natCast_pow,←Int.natCast_pow]
     exact Int.ofNat_le.2 (Nat.pow_le_pow_right (by omega) (by omega))
    have h3:(65536:Int)^100=((2^1600:Nat):Int):=by decide+kernel
    omega
   generalize (vl xs).toNat=m at*
   refine qB (jo true xs m (by omega) hg hv) (by simp(disch:=omega)only[go_sem]) ?_
   rintro r hs (⟨h0,rfl,rfl⟩|⟨zs,rfl,rfl⟩)
   ·refine⟨⟨by simp,by simp(disch:=omega)only[go_sem]⟩,?_⟩
    simp(disch:=omega)only[go_sem]
    refine qi [] [] [.own 0 [.sl l.length (qk l),.v (.int .i64 i3),.v (.int .i64 h3)]] [.ag [.v (.slice none 0 0)]] rfl (by simp(disch:=omega)only[go_sem]) (by simp(disch:=omega)only[go_sem]) (by simp) (by simp) ⟨⟨m,hb,.inl ⟨h0,rfl,rfl⟩⟩,_,_,hi3,rfl⟩
   ·refine⟨⟨by simp,by simp(disch:=omega)only[go_sem]⟩,?_⟩
    simp(disch:=omega)only[go_sem]
    refine qi [(0,390000000)] [.own 1 (qc (lim m++zs))] [.own 0 [.sl l.length (qk l),.v (.int .i64 i3),.v (.int .i64 h3)]] [.ag [.rf 0 0 (lim m).length]] rfl (by simp(disch:=omega)only[go_sem]) (by simp(disch:=omega)only[go_sem]) (by simp) (by simp) ⟨⟨m,hb,.inr ⟨zs,rfl,rfl⟩⟩,_,_,hi3,rfl⟩
  ·simp(disch:=omega)only[go_sem]
   refine zA (qP l hl i3 h3 hi3 [0,1,2,9,10,65535,65536,1099511627776,4611686018427387903,4611686018427387904] (by simp) (by simp)) ?_
   rintro r i4 h4 hi4 ⟨x,hx,rfl⟩
   have hx_b:0≤x∧x≤4611686018427387904:=by
    simp only[List.mem_cons,List.not_mem_nil,or_false]at hx
    omega
   clear hx
   simp(disch:=omega)only[go_sem]
   obtain⟨n,rfl⟩:=Int.eq_ofNat_of_zero_le hx_b.1
   have hb:bl n≤1600:=Nat.le_trans (show bl n≤63 from zB.2 (by omega)) (by omega)
   refine qB (Xa true n (by omega)) (by simp(disch:=omega)only[go_sem]) ?_
   rintro r hs (⟨h0,rfl,rfl⟩|⟨zs,rfl,rfl⟩)
   ·refine⟨⟨by simp,by simp(disch:=omega)only[go_sem]⟩,?_⟩
    simp(disch:=omega)only[go_sem]
    refine qi [] [] [.own 0 [.sl l.length (qk l),.v (.int .i64 i4),.v (.int .i64 h4)]] [.ag [.v (.slice none 0 0)]] rfl (by simp(disch:=omega)only[go_sem]) (by simp(disch:=omega)only[go_sem]) (by simp) (by simp) ⟨⟨n,hb,.inl ⟨h0,rfl,rfl⟩⟩,_,_,hi4,rfl⟩
   ·refine⟨⟨by simp,by simp(disch:=omega)only[go_sem]⟩,?_⟩
    simp(disch:=omega)only[go_sem]
    refine qi [(0,370000000)] [.own 1 (qc (lim n++zs))] [.own 0 [.sl l.length (qk l),.v (.int .i64 i4),.v (.int .i64 h4)]] [.ag [.rf 0 0 (lim n).length]] rfl (by simp(disch:=omega)only[go_sem]) (by simp(disch:=omega)only[go_sem]) (by simp) (by simp) ⟨⟨n,hb,.inr ⟨zs,rfl,rfl⟩⟩,_,_,hi4,rfl⟩
end
end Go.Ab
namespace Go.Ab
open Go Go.Proofs
end Go.Ab
namespace Go.Ab
open Go Go.Proofs
end Go.Ab
namespace Go.Ab
open Go Go.Proofs
def awV(s:Bool)(m e:Int):FlV:=if m<9007199254740991 then⟨1,s,m+1,e⟩else if e<971 then⟨1,s,4503599627370496,e+1⟩else⟨2,s,0,0⟩
def toV(k:Int)(s:Bool)(m e:Int):FlV:=if k=2 then⟨1,s,9007199254740991,971⟩else if 4503599627370496<m∨(e= -1074∧1<m)then⟨k,s,m-1,e⟩else if-1074<e then⟨k,s,9007199254740991,e-1⟩else⟨0,s,0,0⟩
def nxV(k:Int)(s:Bool)(m e:Int):FlV:=if k=3∨(k=2∧s=false)then⟨k,s,m,e⟩else if k=0 then⟨1,false,1, -1074⟩else if s=true then toV k s m e else awV s m e
def ulE(k e:Int):Int:=if k=0 then-1074 else e
end Go.Ab
namespace Go.Ab
structure Adj(k:Int)(s:Bool)(m e:Int)(n:FlV)(t:Bool)(a:Nat)(E:Int):Prop where
 ha:a<2^53
 hf:2^52≤a∨E= -1074
 hE: -1074≤E∧E≤971
 ho:¬(a+1=2^53∧E=971)
 hu:E≤ulE k e
 lo:dv 1074 (xS k s) m.toNat e=dv 1074 t (if t=true then a+1 else a) E
 hi:dv 1074 (xS n.k n.s) n.m.toNat n.e=dv 1074 t (if t=true then a else a+1) E
theorem blI:ngS 1 false=true:=rfl
theorem blG:ngS 1 true=false:=rfl
theorem blH:ngS 2 false=true:=rfl
end Go.Ab
namespace Go.Ab
open Go Go.Proofs
theorem asW{n:Nat}{e:Int}(hn:bl n≤1500)(he: -3000≤e∧e≤1400):yb n e=true:=by
 have q4:=ye (aOM n)
 have l1:=qC (m:=oM n) (B:=1500) (by omega)
 have q5: -3000≤oE n e∧oE n e≤3000:=by
  unfold oE
  by_cases h:n=0
  ·rw[if_pos h];omega
  ·rw[if_neg h];have:=jS h;omega
 unfold yb jL
 simp only[Bool.and_eq_true,decide_eq_true_eq]
 omega
def bkP(ok:Bool):AV→List Ob→List Ob→Prop:=fun r hs bs=>hs=[]∧bs=[]∧∃(S:Bool) (M:Nat) (E:Int) (b:Bool),dyB S (lim M) E=true∧(ok=false→b=false)∧r=.tu [.ag [.v (.bool (S)),.sl (lim (M)).length (qc (lim (M))),.v (.int .i64 (E))],.v (.bool b)]
end Go.Ab
namespace Go.Ab
def ivM(s:Bool)(m:Nat)(e mode:Int):Nat:=roM s m e 0 mode*2^(roE m e 0).toNat
end Go.Ab
namespace Go.Ab
open Go Go.Proofs
end Go.Ab
namespace Go.Ab
open Go Go.Proofs
end Go.Ab
namespace Go.Ab
open Go Go.Proofs
end Go.Ab
namespace Go.Ab
open Go Go.Proofs
def blP(k m:Int):Nat:=if k=1 then oM m.toNat else 0
def blQ(k m e:Int):Int:=if k=1 then oE m.toNat e else 0
def blO(k:Int)(s:Bool)(m:Int):Bool:=if k=1 then oS (s&&decide (m.toNat≠0)) m.toNat else false
end Go.Ab
namespace Go.Ab
open Go Go.Proofs
def bkO:AV→List Ob→List Ob→Prop:=fun r hs bs=>hs=[]∧bs=[]∧∃x:FlV,r=.ag x.cs
section
variable (l:List UInt8)(hl:l.length≤9223372036854775807)(i h:Int)(hi:0≤i∧i≤l.length)
include hl hi
end
end Go.Ab
namespace Go.Ab
open Go Go.Proofs
section
variable (l:List UInt8)(hl:l.length≤9223372036854775807)(i h:Int)(hi:0≤i∧i≤l.length)
include hl hi
end
end Go.Ab
namespace Go.Ab
open Go
end Go.Ab
namespace Go.Ab
open Go Go.Proofs
end Go.Ab
namespace Go.Ab
open Go Go.Proofs
end Go.Ab
namespace Go.Ab
open Go Go.Proofs
section
variable (l:List UInt8)(hl:l.length≤9223372036854775807)(i h:Int)(hi:0≤i∧i≤l.length)
include hl hi
end
theorem atw(l:List UInt8)(hl:l.length≤9223372036854775807):Con Tryz.prog 66 false [.sl l.length (qk l)] [] (fun r hs bs=>r=.pt 0 0∧bs=[]∧∃h:Int,hs=[.own 0 [.sl l.length (qk l),.v (.int .i64 0),.v (.int .i64 h)]]):=by
 refine Con.of_aw Tryz.func66 rfl Tryz.ntmps66 (by simp) (by simp) (by simp) (W.sound ?_)
 show @W Tryz.prog 32 ⟨_⟩ ⟨fun x σ=>@q9 _ _ _ ⟨_⟩ _ ⟨_⟩ x σ⟩ _ _
 simp(disch:=omega)only[go_sem]
 refine qh (fun x:Nat×Int=>[(0,.sl l.length (qk l)),(3,.v (.int .i64 x.2)),(4,.v (.int .i64 x.1))]) (fun _=>[]) (fun x=>x.1≤l.length) (fun x=>l.length-x.1) (0,IntKind.i64.wrap (38282+l.length)) (by simp)
  (Le.lst [] _ _ rfl (by simp(disch:=omega)only[go_sem]) (by simp(disch:=omega)only[go_sem])) ?_
 rintro⟨i,h⟩ hi
 dsimp only at hi ⊢
 have hfin:∀l':List AV,l'=[.pt 0 0]→(fun r hs bs=>r=.pt 0 0∧bs=[]∧∃h:Int,hs=[.own 0 [.sl l.length (qk l),.v (.int .i64 0),.v (.int .i64 h)]]:AV→List Ob→List Ob→Prop) (zl l') [.own 0 [.sl l.length (qk l),.v (.int .i64 0),.v (.int .i64 h)]] []:=fun l' e=>by subst e;exact⟨rfl,rfl,h,rfl⟩
 by_cases h1:(i:Int)<l.length
 ·by_cases h2:(i:Int)<4000
  ·simp(disch:=omega)only[go_sem,h1,h2]
   generalize IntKind.i64.wrap (IntKind.i64.wrap (IntKind.i64.wrap (h*131)+IntKind.i64.wrap ((l.getD i 0).toNat:Int))+7) % 1073741824=h'
   exact⟨⟨by omega,by omega⟩,by omega,qb (i+1,h') [] (by show i+1≤_;omega) (by show l.length-(i+1)<l.length-i;omega) rfl (by simp(disch:=omega)only[go_sem];try omega) (by simp(disch:=omega)only[go_sem])⟩
  ·simp(disch:=omega)only[go_sem,h1,h2]
   refine qi [(0,330000000)] [.own 0 [.sl l.length (qk l),.v (.int .i64 0),.v (.int .i64 h)]] [] [.pt 0 0] rfl (by simp(disch:=omega)only[go_sem]) (by simp(disch:=omega)only[go_sem]) (by simp) (by simp) (hfin _ rfl)
 ·simp(disch:=omega)only[go_sem,h1]
  refine qi [(0,330000000)] [.own 0 [.sl l.length (qk l),.v (.int .i64 0),.v (.int .i64 h)]] [] [.pt 0 0] rfl (by simp(disch:=omega)only[go_sem]) (by simp(disch:=omega)only[go_sem]) (by simp) (by simp) (hfin _ rfl)
end Go.Ab
namespace Go.Ab
open Go Go.Proofs
end Go.Ab
namespace Go.Ab
open Go Go.Proofs
end Go.Ab
namespace Go.Ab
open Go Go.Proofs
end Go.Ab
namespace Go.Ab
open Go Go.Proofs
end Go.Ab
namespace Go.Ab
open Go Go.Proofs
theorem JW{s:Bool}{m:Nat}(h:(lim m).length≤100)(hs:m=0→s=false):zP s (lim m)=true:=by
 unfold zP
 rw[ar2 m h,Bool.true_and]
 by_cases h0:m=0
 ·rw[hs h0];rfl
 ·have:=yV h0
  rw[decide_eq_false (show ¬(lim m).length=0 by omega),Bool.and_false];rfl
end Go.Ab
namespace Go.Ab
open Go Go.Proofs
def bfT(r:AV)(hs:List Ob)(xs:List Int):Prop:=(xs=[]∧r=.ag [.v (.slice none 0 0)]∧hs=[])∨∃zs,r=.ag [.rf 0 0 xs.length]∧hs=[.own 1 (qc (xs++zs))]
section
variable (l:List UInt8)(hl:l.length≤9223372036854775807)(i h:Int)(hi:0≤i∧i≤l.length)
include hl hi
theorem afy:Con Tryz.prog 275 false [.pt 10000000 0] [.own 0 [.sl l.length (qk l),.v (.int .i64 i),.v (.int .i64 h)]] (fun r hs bs=>(∃xs:List Int,xs.length≤200∧bfT r hs xs)∧∃i h:Int,(0≤i∧i≤l.length)∧bs=[.own 0 [.sl l.length (qk l),.v (.int .i64 i),.v (.int .i64 h)]]):=by
 refine Con.of_aw Tryz.func275 rfl Tryz.ntmps275 (by simp) (by simp) (by simp) (W.sound ?_)
 show @W Tryz.prog 43 ⟨_⟩ ⟨fun x σ=>@q9 _ _ _ ⟨_⟩ _ ⟨_⟩ x σ⟩ _ _
 simp(disch:=omega)only[go_sem]
 refine QH false [10000000] (Yq l hl i h hi) (by simp(disch:=omega)only[go_sem]) (by simp(disch:=omega)only[go_sem]) rfl (qX (z:=0) (cs:=[.sl l.length (qk l),.v (.int .i64 i),.v (.int .i64 h)]) (by simp(disch:=omega)only[go_sem]) (by simp(disch:=omega)only[go_sem])) (by intro n hn;exact⟨_,List.mem_cons_self ..,by rw[List.mem_singleton.1 hn];rfl⟩) ?_
 rintro r hs bs ⟨⟨m,hb,(⟨h0,rfl,rfl⟩|⟨zs,rfl,rfl⟩)⟩,i1,h1,hi1,rfl⟩-
 ·refine⟨by simp[qT],?_⟩
  simp(disch:=omega)only[go_sem]
  refine qu (qQ l hl i1 h1 hi1 9 (by omega)) ?_
  rintro r i2 h2 hi2 ⟨b,rfl⟩
  simp(disch:=omega)only[go_sem]
  cases b
  ·simp(disch:=omega)only[go_sem]
   refine qi [] [] [.own 0 [.sl l.length (qk l),.v (.int .i64 i2),.v (.int .i64 h2)]] [.ag [.v (.slice none 0 0)]] rfl (by simp(disch:=omega)only[go_sem]) (by simp(disch:=omega)only[go_sem]) (by simp) (by simp) ⟨⟨[],by simp,.inl ⟨rfl,rfl,rfl⟩⟩,_,_,hi2,rfl⟩
  ·simp(disch:=omega)only[go_sem]
   refine qu (qN l hl i2 h2 hi2 4 (by omega)) ?_
   rintro r i3 h3 hi3 ⟨q,hq,rfl⟩
   simp(disch:=omega)only[go_sem]
   by_cases c0:q=0
   ·simp(disch:=omega)only[go_sem,c0]
    refine qi [(0,280000000)] [.own 1 (qc ([0]++[]))] [.own 0 [.sl l.length (qk l),.v (.int .i64 i3),.v (.int .i64 h3)]] [.ag [.rf 0 0 1]] rfl (by simp(disch:=omega)only[go_sem]) (by simp(disch:=omega)only[go_sem];rfl) (by simp) (by simp) ⟨⟨[0],by simp,.inr ⟨[],rfl,rfl⟩⟩,_,_,hi3,rfl⟩
   by_cases c1:q=1
   ·simp(disch:=omega)only[go_sem,c0,c1]
    refine qi [(0,350000000)] [.own 1 (qc ([-1]++[]))] [.own 0 [.sl l.length (qk l),.v (.int .i64 i3),.v (.int .i64 h3)]] [.ag [.rf 0 0 1]] rfl (by simp(disch:=omega)only[go_sem]) (by simp(disch:=omega)only[go_sem];rfl) (by simp) (by simp) ⟨⟨[-1],by simp,.inr ⟨[],rfl,rfl⟩⟩,_,_,hi3,rfl⟩
   by_cases c2:q=2
   ·simp(disch:=omega)only[go_sem,c0,c1,c2]
    refine qi [(0,420000000)] [.own 1 (qc ([65536]++[]))] [.own 0 [.sl l.length (qk l),.v (.int .i64 i3),.v (.int .i64 h3)]] [.ag [.rf 0 0 1]] rfl (by simp(disch:=omega)only[go_sem]) (by simp(disch:=omega)only[go_sem];rfl) (by simp) (by simp) ⟨⟨[65536],by simp,.inr ⟨[],rfl,rfl⟩⟩,_,_,hi3,rfl⟩
   simp(disch:=omega)only[go_sem,c0,c1,c2]
   refine qh (fun x:List Int×List Int=>[(2,.pt 4 0),(3,.pt 3 0)]) (fun x=>[(1,.own 1 (qc (x.1++x.2))),(3,.own 0 [.rf 1 0 x.1.length]),(4,.own 0 [.v (.slice none 0 0)]),(10000000,.own 0 [.sl l.length (qk l),.v (.int .i64 i3),.v (.int .i64 h3)])])
    (fun x=>x.1.length≤101) (fun x=>101-x.1.length) ([],[])
    (by simp) ((Le.ghostC 50000000 0 1 1 (zo:=0) (cs:=[.v (.slice none 0 0)]) (by simp(disch:=omega)only[go_sem]) rfl (by simp(disch:=omega)only[go_sem])).trans (Le.lst [(3,50000000),(4,40000000)] _ _ rfl (by simp(disch:=omega)only[go_sem]) (by simp(disch:=omega)only[go_sem,List.set_cons_zero]))) ?_
   rintro⟨xs,ys⟩ hx
   dsimp only at hx ⊢
   simp(disch:=omega)only[go_sem]
   refine qe (fun c3=>?_) (fun c3=>?_)
   ·simp(disch:=omega)only[go_sem,c3]
    exact⟨⟨by simp,by omega⟩,qb (xs++[1],[]) [(1,210000000)] (by simp;omega) (by simp;omega) rfl (by simp(disch:=omega)only[go_sem,List.length_append];try omega) (by simp(disch:=omega)only[go_sem,List.length_append,List.append_nil,List.take_left])⟩
   ·simp(disch:=omega)only[go_sem,c3]
    refine qi [(0,1)] [.own 1 (qc (xs++ys))] [.own 0 [.sl l.length (qk l),.v (.int .i64 i3),.v (.int .i64 h3)]] [.ag [.rf 0 0 xs.length]] rfl (by simp(disch:=omega)only[go_sem]) (by simp(disch:=omega)only[go_sem]) (by simp) (by simp) ⟨⟨xs,by omega,.inr ⟨ys,rfl,rfl⟩⟩,_,_,hi3,rfl⟩
 ·have hx:=qC (m:=m) (B:=1600) hb
  refine⟨by simp[qT];simp(disch:=omega)only[go_sem],?_⟩
  simp(disch:=omega)only[go_sem]
  refine qu (qQ l hl i1 h1 hi1 9 (by omega)) ?_
  rintro r i2 h2 hi2 ⟨b,rfl⟩
  simp(disch:=omega)only[go_sem]
  cases b
  ·simp(disch:=omega)only[go_sem]
   refine qi [(0,70000000)] [.own 1 (qc (lim m++zs))] [.own 0 [.sl l.length (qk l),.v (.int .i64 i2),.v (.int .i64 h2)]] [.ag [.rf 0 0 (lim m).length]] rfl (by simp(disch:=omega)only[go_sem]) (by simp(disch:=omega)only[go_sem]) (by simp) (by simp) ⟨⟨lim m,by have:=qC (m:=m) (B:=1600) hb;omega,.inr ⟨zs,rfl,rfl⟩⟩,_,_,hi2,rfl⟩
  ·simp(disch:=omega)only[go_sem]
   refine qu (qN l hl i2 h2 hi2 4 (by omega)) ?_
   rintro r i3 h3 hi3 ⟨q,hq,rfl⟩
   simp(disch:=omega)only[go_sem]
   by_cases c0:q=0
   ·simp(disch:=omega)only[go_sem,c0]
    exact⟨⟨by simp,by omega⟩,qi [(0,280000000)] [.own 1 (qc (lim m++[0]++[]))] [.own 0 [.sl l.length (qk l),.v (.int .i64 i3),.v (.int .i64 h3)]] [.ag [.rf 0 0 ((lim m).length+1)]] rfl (by simp(disch:=omega)only[go_sem]) (by simp(disch:=omega)only[go_sem,List.take_left',List.append_nil]) (by simp) (by simp) ⟨⟨lim m++[0],by simp;omega,.inr ⟨[],by rw[List.length_append];rfl,rfl⟩⟩,_,_,hi3,rfl⟩⟩
   by_cases c1:q=1
   ·simp(disch:=omega)only[go_sem,c0,c1]
    exact⟨⟨by simp,by omega⟩,qi [(0,350000000)] [.own 1 (qc (lim m++[-1]++[]))] [.own 0 [.sl l.length (qk l),.v (.int .i64 i3),.v (.int .i64 h3)]] [.ag [.rf 0 0 ((lim m).length+1)]] rfl (by simp(disch:=omega)only[go_sem]) (by simp(disch:=omega)only[go_sem,List.take_left',List.append_nil]) (by simp) (by simp) ⟨⟨lim m++[-1],by simp;omega,.inr ⟨[],by rw[List.length_append];rfl,rfl⟩⟩,_,_,hi3,rfl⟩⟩
   by_cases c2:q=2
   ·simp(disch:=omega)only[go_sem,c0,c1,c2]
    exact⟨⟨by simp,by omega⟩,qi [(0,420000000)] [.own 1 (qc (lim m++[65536]++[]))] [.own 0 [.sl l.length (qk l),.v (.int .i64 i3),.v (.int .i64 h3)]] [.ag [.rf 0 0 ((lim m).length+1)]] rfl (by simp(disch:=omega)only[go_sem]) (by simp(disch:=omega)only[go_sem,List.take_left',List.append_nil]) (by simp) (by simp) ⟨⟨lim m++[65536],by simp;omega,.inr ⟨[],by rw[List.length_append];rfl,rfl⟩⟩,_,_,hi3,rfl⟩⟩
   simp(disch:=omega)only[go_sem,c0,c1,c2]
   refine qh (fun x:List Int×List Int=>[(2,.pt 4 0),(3,.pt 3 0)]) (fun x=>[(1,.own 1 (qc (x.1++x.2))),(3,.own 0 [.rf 1 0 x.1.length]),(4,.own 0 [.v (.slice none 0 0)]),(10000000,.own 0 [.sl l.length (qk l),.v (.int .i64 i3),.v (.int .i64 h3)])])
    (fun x=>x.1.length≤101) (fun x=>101-x.1.length) (lim m,zs)
    (by show(lim m).length≤101;omega) (Le.lst [(3,50000000),(4,40000000),(1,70000000)] _ _ rfl (by simp(disch:=omega)only[go_sem]) (by simp(disch:=omega)only[go_sem])) ?_
   rintro⟨xs,ys⟩ hx
   dsimp only at hx ⊢
   simp(disch:=omega)only[go_sem]
   refine qe (fun c3=>?_) (fun c3=>?_)
   ·simp(disch:=omega)only[go_sem,c3]
    exact⟨⟨by simp,by omega⟩,qb (xs++[1],[]) [(1,210000000)] (by simp;omega) (by simp;omega) rfl (by simp(disch:=omega)only[go_sem,List.length_append];try omega) (by simp(disch:=omega)only[go_sem,List.length_append,List.append_nil,List.take_left])⟩
   ·simp(disch:=omega)only[go_sem,c3]
    refine qi [(0,1)] [.own 1 (qc (xs++ys))] [.own 0 [.sl l.length (qk l),.v (.int .i64 i3),.v (.int .i64 h3)]] [.ag [.rf 0 0 xs.length]] rfl (by simp(disch:=omega)only[go_sem]) (by simp(disch:=omega)only[go_sem]) (by simp) (by simp) ⟨⟨xs,by omega,.inr ⟨ys,rfl,rfl⟩⟩,_,_,hi3,rfl⟩
omit hi hl in
theorem Con.cur{f:Nat}{args:List AV}{Q:AV→List Ob→Prop}{Q':AV→Prop}(hc:Con Tryz.prog f false args [.own 0 [.sl l.length (qk l),.v (.int .i64 i),.v (.int .i64 h)]] (fun r hs bs=>Q r hs∧∃i h:Int,(0≤i∧i≤l.length)∧bs=[.own 0 [.sl l.length (qk l),.v (.int .i64 i),.v (.int .i64 h)]]))
  (hq:∀r hs,Q r hs→(∀ob∈hs,ob.men fun _=>False)∧Q' (qG (rhp hs []) 6 r)):Con Tryz.prog f false args [.own 0 [.sl l.length (qk l),.v (.int .i64 i),.v (.int .i64 h)]] (Yd l Q'):=
 (Con.frzB hc (by
  rintro r hs bs ⟨h1,i,h, -,rfl⟩
  exact⟨by simp[Ob.men,AllL,AV.All],(hq r hs h1).1⟩)).mono fun r hs bs=>by
   rintro⟨rfl,r0,hs0,⟨h1,h2⟩,rfl⟩
   exact⟨rfl,(hq _ _ h1).2,h2⟩
omit hi hl in
theorem Con.curF{f:Nat}{args:List AV}{Q Q':AV→Prop}(hc:Con Tryz.prog f false args [.own 0 [.sl l.length (qk l),.v (.int .i64 i),.v (.int .i64 h)]] (Yd l Q))(hq:∀r,Q r→Q' (qG (rhp [] []) 6 r)):
  Con Tryz.prog f false args [.own 0 [.sl l.length (qk l),.v (.int .i64 i),.v (.int .i64 h)]] (Yd l Q'):=
 Con.cur l i h (Q:=fun r hs=>hs=[]∧Q r) (hc.mono fun r hs bs ⟨h1,h2,h3⟩=>⟨⟨h1,h2⟩,h3⟩) fun r hs ⟨h1,h2⟩=>by subst h1;exact⟨by simp,hq r h2⟩
omit hi hl in
theorem Zu{r:AV}{hs:List Ob}{xs:List Int}(h:bfT r hs xs):(∀ob∈hs,ob.men fun _=>False)∧qG (rhp hs []) 6 r=.ag [.sl xs.length (qc xs)]:=by
 rcases h with⟨rfl,rfl,rfl⟩|⟨zs,rfl,rfl⟩
 ·exact⟨by simp,rfl⟩
 ·refine⟨by intro ob ho;rw[List.mem_singleton.1 ho];exact Zy,?_⟩
  show AV.ag [qG _ 5 (.rf 0 0 xs.length)]=_
  rw[jT q6 rfl]
theorem afx:Con Tryz.prog 312 false [.pt 10000000 0] [.own 0 [.sl l.length (qk l),.v (.int .i64 i),.v (.int .i64 h)]] (Yd l fun r=>∃m:Nat,bl m≤1600∧r=.ag [.sl (lim (m)).length (qc (lim (m)))]):=
 Con.cur l i h (Yq l hl i h hi) fun r hs ⟨m,hb,hr⟩=>by
  have:bfT r hs (lim m):=hr.elim (fun⟨h0,h1,h2⟩=>.inl ⟨by rw[h0,qo],h1,h2⟩) .inr
  exact⟨(Zu this).1,m,hb,(Zu this).2⟩
theorem alZ:Con Tryz.prog 275 false [.pt 10000000 0] [.own 0 [.sl l.length (qk l),.v (.int .i64 i),.v (.int .i64 h)]] (Yd l fun r=>∃xs:List Int,xs.length≤200∧r=.ag [.sl xs.length (qc xs)]):=
 Con.cur l i h (afy l hl i h hi) fun r hs ⟨xs,hb,hr⟩=>⟨(Zu hr).1,xs,hb,(Zu hr).2⟩
theorem Ym:Con Tryz.prog 274 false [.pt 10000000 0] [.own 0 [.sl l.length (qk l),.v (.int .i64 i),.v (.int .i64 h)]] (Yd l fun r=>∃(s:Bool) (m:Nat),bl m≤1600∧r=.ag [.v (.bool (s&&decide (m≠0))),.sl (lim (m)).length (qc (lim (m)))]):=by
 refine Con.of_aw Tryz.func274 rfl Tryz.ntmps274 (by simp) (by simp) (by simp) (W.sound ?_)
 show @W Tryz.prog 8 ⟨_⟩ ⟨fun x σ=>@q9 _ _ _ ⟨_⟩ _ ⟨_⟩ x σ⟩ _ _
 simp(disch:=omega)only[go_sem]
 refine qu (qQ l hl i h hi 2 (by omega)) ?_
 rintro r i1 h1 hi1 ⟨b,rfl⟩
 simp(disch:=omega)only[go_sem]
 refine qu (afx l hl i1 h1 hi1) ?_
 rintro r i2 h2 hi2 ⟨m,hm,rfl⟩
 simp(disch:=omega)only[go_sem]
 have hx:=qC (m:=m) (B:=1600) hm
 refine qa (zq b m (by omega)) ?_
 simp(disch:=omega)only[go_sem]
 refine qR (i2) (h2) ⟨b,m,hm,rfl⟩
theorem alX:Con Tryz.prog 204 false [.pt 10000000 0] [.own 0 [.sl l.length (qk l),.v (.int .i64 i),.v (.int .i64 h)]] (Yd l fun r=>∃(s:Bool) (xs:List Int),xs.length≤200∧r=.ag [.v (.bool s),.sl xs.length (qc xs)]):=by
 refine Con.curF (Q:=fun r=>∃(s:Bool) (xs:List Int),xs.length≤200∧(r=.ag [.v (.bool s),.sl xs.length (qc xs)]∨(xs=[]∧r=.ag [.v (.bool s),.v (.slice none 0 0)]))) l i h ?_ (fun r ⟨s,xs,h1,h2⟩=>⟨s,xs,h1,h2.elim (fun h=>by rw[h];rfl) fun⟨h,h'⟩=>by rw[h,h'];rfl⟩)
 refine Con.of_aw Tryz.func204 rfl Tryz.ntmps204 (by simp) (by simp) (by simp) (W.sound ?_)
 show @W Tryz.prog 15 ⟨_⟩ ⟨fun x σ=>@q9 _ _ _ ⟨_⟩ _ ⟨_⟩ x σ⟩ _ _
 simp(disch:=omega)only[go_sem]
 refine qu (Ym l hl i h hi) ?_
 rintro r i1 h1 hi1 ⟨s,m,hm,rfl⟩
 simp(disch:=omega)only[go_sem]
 have hx:=qC (m:=m) (B:=1600) hm
 refine qu (qQ l hl i1 h1 hi1 9 (by omega)) ?_
 rintro r i2 h2 hi2 ⟨b,rfl⟩
 simp(disch:=omega)only[go_sem]
 cases b
 ·simp(disch:=omega)only[go_sem]
  refine qR (i2) (h2) ⟨_,lim m,by omega,.inl rfl⟩
 ·simp(disch:=omega)only[go_sem]
  refine qu (qQ l hl i2 h2 hi2 2 (by omega)) ?_
  rintro r i3 h3 hi3 ⟨b,rfl⟩
  simp(disch:=omega)only[go_sem]
  cases b
  ·simp(disch:=omega)only[go_sem]
   refine qu (alZ l hl i3 h3 hi3) ?_
   rintro r i4 h4 hi4 ⟨xs,hxs,rfl⟩
   simp(disch:=omega)only[go_sem]
   refine qR (i4) (h4) ⟨_,xs,hxs,.inl rfl⟩
  ·simp(disch:=omega)only[go_sem]
   refine qR (i3) (h3) ⟨true,[],by simp,.inr ⟨rfl,rfl⟩⟩
omit hi hl in
theorem Y2:AV.ag [.v (.bool false),.sl 0 [],.v (.int .i64 0)]=.ag [.v (.bool (ex0).s),.sl (lim (ex0).m).length (qc (lim (ex0).m)),.v (.int .i64 (ex0).e)]:=by
 show _=AV.ag [.v (.bool false),.sl (lim 0).length (qc (lim 0)),.v (.int .i64 0)]
 rw[qo];rfl
omit hi hl in
theorem QG(x:ExV)(h:zP x.s (lim x.m)=true)(he: -12000≤x.e∧x.e≤12000):Con Tryz.prog 78 false [.ag [.v (.bool (x.s)),.sl (lim (x.m)).length (qc (lim (x.m)))],.v (.int .i64 x.e)] [] (isA (.tu [.ag [.v (.bool (x.tel).s),.sl (lim (x.tel).m).length (qc (lim (x.tel).m)),.v (.int .i64 (x.tel).e)],.v (.bool x.fit)])):=by
 have c:=abq x.s x.m x.e h he
 rw[show yb x.m x.e=x.fit from rfl]at c
 unfold ExV.tel
 cases hf:x.fit<;>rw[hf]at c<;>exact c
omit hi hl in
theorem aPl{m:Nat}(h:bl m≤1600):(lim m).length≤100:=jB.2 (Nat.lt_of_lt_of_eq (zB.1 h) (by decide+kernel))
theorem Yl:Con Tryz.prog 203 false [.pt 10000000 0] [.own 0 [.sl l.length (qk l),.v (.int .i64 i),.v (.int .i64 h)]] (Yd l fun r=>∃x:ExV,x.ok=true∧r=.ag [.v (.bool (x).s),.sl (lim (x).m).length (qc (lim (x).m)),.v (.int .i64 (x).e)]):=by
 refine Con.curF (Q:=fun r=>∃x:ExV,x.ok=true∧qG (rhp [] []) 6 r=.ag [.v (.bool (x).s),.sl (lim (x).m).length (qc (lim (x).m)),.v (.int .i64 (x).e)]) l i h ?_ fun _ h=>h
 refine Con.of_aw Tryz.func203 rfl Tryz.ntmps203 (by simp) (by simp) (by simp) (W.sound ?_)
 show @W Tryz.prog 33 ⟨_⟩ ⟨fun x σ=>@q9 _ _ _ ⟨_⟩ _ ⟨_⟩ x σ⟩ _ _
 simp(disch:=omega)only[go_sem]
 refine qu (Ym l hl i h hi) ?_
 rintro r i1 h1 hi1 ⟨s,m,hm,rfl⟩
 simp(disch:=omega)only[go_sem]
 have hx:=qC (m:=m) (B:=1600) hm
 refine qu (qQ l hl i1 h1 hi1 3 (by omega)) ?_
 rintro r i2 h2 hi2 ⟨b,rfl⟩
 simp(disch:=omega)only[go_sem]
 have ww:∀(s:Bool) (m:Nat),bl m≤1600→zP (s&&decide (m≠0)) (lim m)=true:=fun s m hm=>JW (aPl hm) (by intro h;simp[h])
 cases b
 ·simp(disch:=omega)only[go_sem]
  refine qu (qN l hl i2 h2 hi2 24 (by omega)) ?_
  rintro r i3 h3 hi3 ⟨k,hk,rfl⟩
  simp(disch:=omega)only[go_sem]
  have hk2:=hk.2 (by omega)
  refine qu (qQ l hl i3 h3 hi3 6 (by omega)) ?_
  rintro r i4 h4 hi4 ⟨b,rfl⟩
  simp(disch:=omega)only[go_sem]
  cases b
  ·simp(disch:=omega)only[go_sem]
   refine qa (QG ⟨s&&decide (m≠0),m,k-12⟩ (ww s m hm) (by show-12000≤k-12∧k-12≤12000;omega)) ?_
   simp(disch:=omega)only[go_sem]
   have ok:=af6 ⟨s&&decide (m≠0),m,k-12⟩
   generalize ExV.tel ⟨s&&decide (m≠0),m,k-12⟩=y at*
   cases hf:ExV.fit ⟨s&&decide (m≠0),m,k-12⟩
   ·simp(disch:=omega)only[go_sem,hf]
    refine qR (i4) (h4) ⟨ex0,Yb,by simp(disch:=omega)only[go_sem];exact Y2⟩
   ·simp(disch:=omega)only[go_sem,hf]
    refine qR (i4) (h4) ⟨y,ok,by simp(disch:=omega)only[go_sem]⟩
  ·simp(disch:=omega)only[go_sem]
   refine zA (qP l hl i4 h4 hi4 [0, -60,60, -1074,900, -2990,2990, -100] (by simp) (by simp)) ?_
   rintro r i5 h5 hi5 ⟨x,hx,rfl⟩
   have hx_b: -3000≤x∧x≤3000:=by
    simp only[List.mem_cons,List.not_mem_nil,or_false]at hx
    omega
   clear hx
   simp(disch:=omega)only[go_sem]
   refine qa (QG ⟨s&&decide (m≠0),m,x⟩ (ww s m hm) (by show-12000≤x∧x≤12000;omega)) ?_
   simp(disch:=omega)only[go_sem]
   have ok:=af6 ⟨s&&decide (m≠0),m,x⟩
   generalize ExV.tel ⟨s&&decide (m≠0),m,x⟩=y at*
   cases hf:ExV.fit ⟨s&&decide (m≠0),m,x⟩
   ·simp(disch:=omega)only[go_sem,hf]
    refine qR (i5) (h5) ⟨ex0,Yb,by simp(disch:=omega)only[go_sem];exact Y2⟩
   ·simp(disch:=omega)only[go_sem,hf]
    refine qR (i5) (h5) ⟨y,ok,by simp(disch:=omega)only[go_sem]⟩
 ·simp(disch:=omega)only[go_sem]
  refine qu (qN l hl i2 h2 hi2 40 (by omega)) ?_
  rintro r i3 h3 hi3 ⟨q,hq,rfl⟩
  simp(disch:=omega)only[go_sem]
  have hq2:=hq.2 (by omega)
  refine qa (Y9 (q-20) (by omega)) ?_
  simp(disch:=omega)only[go_sem]
  have wq:zP (decide (q-20<0)) (lim (q-20).natAbs)=true:=JW (by have:=qC (m:=(q-20).natAbs) (B:=6) (zB.2 (by omega));omega) (by intro h;simp;omega)
  refine qu (qN l hl i3 h3 hi3 24 (by omega)) ?_
  rintro r i4 h4 hi4 ⟨k,hk,rfl⟩
  simp(disch:=omega)only[go_sem]
  have hk2:=hk.2 (by omega)
  refine qu (qQ l hl i4 h4 hi4 6 (by omega)) ?_
  rintro r i5 h5 hi5 ⟨b,rfl⟩
  simp(disch:=omega)only[go_sem]
  cases b
  ·simp(disch:=omega)only[go_sem]
   refine qa (QG ⟨decide (q-20<0),(q-20).natAbs,k-12⟩ (wq) (by show-12000≤k-12∧k-12≤12000;omega)) ?_
   simp(disch:=omega)only[go_sem]
   have ok:=af6 ⟨decide (q-20<0),(q-20).natAbs,k-12⟩
   generalize ExV.tel ⟨decide (q-20<0),(q-20).natAbs,k-12⟩=y at*
   cases hf:ExV.fit ⟨decide (q-20<0),(q-20).natAbs,k-12⟩
   ·simp(disch:=omega)only[go_sem,hf]
    refine qR (i5) (h5) ⟨ex0,Yb,by simp(disch:=omega)only[go_sem];exact Y2⟩
   ·simp(disch:=omega)only[go_sem,hf]
    refine qR (i5) (h5) ⟨y,ok,by simp(disch:=omega)only[go_sem]⟩
  ·simp(disch:=omega)only[go_sem]
   refine zA (qP l hl i5 h5 hi5 [0, -60,60, -1074,900, -2990,2990, -100] (by simp) (by simp)) ?_
   rintro r i6 h6 hi6 ⟨x,hx,rfl⟩
   have hx_b: -3000≤x∧x≤3000:=by
    simp only[List.mem_cons,List.not_mem_nil,or_false]at hx
    omega
   clear hx
   simp(disch:=omega)only[go_sem]
   refine qa (QG ⟨decide (q-20<0),(q-20).natAbs,x⟩ (wq) (by show-12000≤x∧x≤12000;omega)) ?_
   simp(disch:=omega)only[go_sem]
   have ok:=af6 ⟨decide (q-20<0),(q-20).natAbs,x⟩
   generalize ExV.tel ⟨decide (q-20<0),(q-20).natAbs,x⟩=y at*
   cases hf:ExV.fit ⟨decide (q-20<0),(q-20).natAbs,x⟩
   ·simp(disch:=omega)only[go_sem,hf]
    refine qR (i6) (h6) ⟨ex0,Yb,by simp(disch:=omega)only[go_sem];exact Y2⟩
   ·simp(disch:=omega)only[go_sem,hf]
    refine qR (i6) (h6) ⟨y,ok,by simp(disch:=omega)only[go_sem]⟩
theorem alV:Con Tryz.prog 110 false [.pt 10000000 0] [.own 0 [.sl l.length (qk l),.v (.int .i64 i),.v (.int .i64 h)]] (Yd l fun r=>∃d:DyV,d.xs.length≤200∧r=.ag d.cs):=by
 refine Con.of_aw Tryz.func110 rfl Tryz.ntmps110 (by simp) (by simp) (by simp) (W.sound ?_)
 show @W Tryz.prog 28 ⟨_⟩ ⟨fun x σ=>@q9 _ _ _ ⟨_⟩ _ ⟨_⟩ x σ⟩ _ _
 simp(disch:=omega)only[go_sem]
 refine qu (Yl l hl i h hi) ?_
 rintro r i1 h1 hi1 ⟨x,hx,rfl⟩
 simp(disch:=omega)only[go_sem]
 have lx:=(yq hx).2.2.1
 refine qu (qQ l hl i1 h1 hi1 9 (by omega)) ?_
 rintro r i2 h2 hi2 ⟨b,rfl⟩
 simp(disch:=omega)only[go_sem]
 cases b
 ·simp(disch:=omega)only[go_sem]
  refine qR (i2) (h2) ⟨⟨x.s,lim x.m,x.e⟩,by show(lim x.m).length≤200;omega,rfl⟩
 ·simp(disch:=omega)only[go_sem]
  refine qu (qN l hl i2 h2 hi2 3 (by omega)) ?_
  rintro r i3 h3 hi3 ⟨q,hq,rfl⟩
  simp(disch:=omega)only[go_sem]
  by_cases c0:q=0
  ·simp(disch:=omega)only[go_sem,c0]
   refine zA (qP l hl i3 h3 hi3 [-3001,3001,3000,4611686018427387904] (by simp) (by simp)) ?_
   rintro r i4 h4 hi4 ⟨y,hy,rfl⟩
   clear hy
   simp(disch:=omega)only[go_sem]
   refine qR (i4) (h4) ⟨⟨x.s,lim x.m,y⟩,by show(lim x.m).length≤200;omega,rfl⟩
  by_cases c1:q=1
  ·simp(disch:=omega)only[go_sem,c0,c1]
   refine qu (alX l hl i3 h3 hi3) ?_
   rintro r i4 h4 hi4 ⟨s,xs,hxs,rfl⟩
   simp(disch:=omega)only[go_sem]
   refine qR (i4) (h4) ⟨⟨s,xs,x.e⟩,hxs,rfl⟩
  simp(disch:=omega)only[go_sem,c0,c1]
  refine qR (i3) (h3) ⟨⟨!x.s,lim x.m,x.e⟩,by show(lim x.m).length≤200;omega,rfl⟩
end
theorem alW(x y:ExV)(hx:x.bd (-400000) 400000)(hy:y.bd (-400000) 400000):Con Tryz.prog 181 false [.ag [.v (.bool (x).s),.sl (lim (x).m).length (qc (lim (x).m)),.v (.int .i64 (x).e)],.ag [.v (.bool (y).s),.sl (lim (y).m).length (qc (lim (y).m)),.v (.int .i64 (y).e)]] [] (isA (.ag [.v (.bool ((x.plus y).can).s),.sl (lim ((x.plus y).can).m).length (qc (lim ((x.plus y).can).m)),.v (.int .i64 ((x.plus y).can).e)])):=by
 obtain⟨z1,a1,a2⟩:=hx
 obtain⟨z2,b1,b2⟩:=hy
 exact atn x.s x.m x.e y.s y.m y.e (by omega) (by omega) (by omega) (by omega) z1 z2
end Go.Ab
namespace Go.Ab
open Go
def z3:List AV:=[.v (.bool false),.v (.slice none 0 0),.v (.int .i64 0)]
def z6:List AV:=[.v (.bool false),.v (.slice none 0 0),.v (.int .i64 0),.v (.bool false),.v (.slice none 0 0),.v (.int .i64 0)]
section
variable {X:Type}{f:X→List AV}{z:Nat}{n:Nat}{zs:List AV}{ρ:Nat→Nat}{p:Nat→Prop}
theorem afU(h:zN ρ zs=zs):zN ρ (zO n zs)=zO n zs:=by
 unfold zO
 induction n with
 |zero=>rfl
 |succ n ih=>
  rw[List.replicate_succ,List.flatten_cons]
  have:∀a b:List AV,zN ρ (a++b)=zN ρ a++zN ρ b:=fun a b=>by simp[qV]
  rw[this,h,ih]
theorem afV(h:AllL p zs):AllL p (zO n zs):=by
 unfold zO
 induction n with
 |zero=>simp[AllL]
 |succ n ih=>rw[List.replicate_succ,List.flatten_cons];exact AllL.append h ih
theorem abH:∀(ks a b:List AV) (o:Nat),o+ks.length≤a.length→wr (a++b) o ks=wr a o ks++b
 | [],a,b,o,_=>by simp[wr]
 |k::r,a,b,o,h=>by
  simp only[List.length_cons]at h
  rw[wr,wr,List.set_append_left _ _ (by omega),abH r]
  rw[List.length_set];omega
theorem aFo(hz:∀x,(f x).length=z){x y:X}{L:List X}:wr (ql f (x::L)) 0 (f y)=ql f (y::L):=by
 rw[zE,zE,abH _ _ _ _ (by rw[hz,hz];omega)]
 have:=ZD [] (f x) (f y) (by rw[hz,hz])
 rw[List.nil_append,List.nil_append]at this
 exact congrArg (· ++ql f L) this
theorem aFp(hz:∀x,(f x).length=z)(hs:zs.length=z){L:List X}{k:Nat}(x:X):wr (ql f L++zO (k+1) zs) (L.length*z) (f x)=ql f (L++[x])++zO k zs:=by
 unfold zO
 rw[List.replicate_succ,List.flatten_cons,←List.append_assoc]
 have h1:(ql f L++zs).length=(ql f L).length+z:=by simp[hs]
 have h2:=ZD (ql f L) zs (f x) (by rw[hz,hs])
 rw[y5 hz]at h2
 rw[abH _ _ _ _ (by rw[h1,y5 hz,hz];exact Nat.le_refl _),h2,←aeR,zE,y4,List.append_nil]
theorem aH2:zN ρ (zO n z3)=zO n z3:=afU rfl
theorem aH3:AllL p (zO n z3)=True:=eq_true (afV (by simp[z3,AllL,AV.All]))
theorem Xo:(zO n z3).length=n*3:=zt n z3
theorem aRW:zN ρ (zO n z6)=zO n z6:=afU rfl
theorem aRY:AllL p (zO n z6)=True:=eq_true (afV (by simp[z6,AllL,AV.All]))
theorem aRX:(zO n z6).length=n*6:=zt n z6
theorem amx:zO 0 zs=[]:=by simp[zO]
theorem ZA{L:List ExV}{k:Nat}{x:ExV}:wr (ql ExV.cs L++zO (k+1) z3) (L.length*3) [.v (.bool x.s),.sl (lim x.m).length (qc (lim x.m)),.v (.int .i64 x.e)]=ql ExV.cs (L++[x])++zO k z3:=aFp agu rfl x
theorem aG8{x:DyV}{L:List DyV}{s:Bool}{xs:List Int}{e:Int}:wr (ql DyV.cs (x::L)) 0 [.v (.bool s),.sl xs.length (qc xs),.v (.int .i64 e)]=ql DyV.cs (⟨s,xs,e⟩::L):=aFo Yc (y:=⟨s,xs,e⟩)
theorem aFy{a b:List AV}:zN ρ (a++b)=zN ρ a++zN ρ b:=by simp[qV]
theorem aHT{a b:List AV}:AllL p (a++b)=(AllL p a∧AllL p b):=propext ⟨fun h=>by
 induction a with
 |nil=>exact⟨by simp[AllL],h⟩
 |cons x r ih=>exact⟨⟨h.1,(ih h.2).1⟩,(ih h.2).2⟩,fun h=>AllL.append h.1 h.2⟩
end
attribute [go_sem] aH2 aH3 Xo aRW aRY aRX aFy aHT
end Go.Ab
namespace Go.Ab
open Go Go.Proofs
theorem Js(n:Nat)(hn:n≤4):Con Tryz.prog 152 false [.v (.int .i64 n)] [] (fun r hs bs=>r=.ag [.v (.int .i64 n),.rf 0 0 (n*n)]∧hs=[.own 3 (zO (n*n) z3)]):=by
 have hq:=jv hn
 have hz:((n:Int)*n).toNat=n*n:=by rw[←Int.natCast_mul];rfl
 have hz2:(n:Int)*n=((n*n:Nat):Int):=(Int.natCast_mul n n).symm
 refine Con.of_aw Tryz.func152 rfl Tryz.ntmps152 (by simp) (by simp) (by simp) (W.sound ?_)
 show @W Tryz.prog 9 ⟨_⟩ ⟨fun x σ=>@q9 _ _ _ ⟨_⟩ _ ⟨_⟩ x σ⟩ _ _
 simp(disch:=omega)only[go_sem]
 rw[hz]
 refine⟨by rw[hz2];omega,qi [(0,90000000)] [.own 3 (zO (n*n) z3)] [] [.ag [.v (.int .i64 n),.rf 0 0 (n*n)]] rfl (by simp(disch:=omega)only[go_sem]) (by simp(disch:=omega)only[go_sem,aH2,aH3];rfl) (by simp) (by simp) ⟨rfl,rfl⟩⟩
section
variable (l:List UInt8)(hl:l.length≤9223372036854775807)(i h:Int)(hi:0≤i∧i≤l.length)
include hl hi
theorem Jr:Con Tryz.prog 153 false [.pt 10000000 0] [.own 0 [.sl l.length (qk l),.v (.int .i64 i),.v (.int .i64 h)]] (Yd l fun r=>∃x:ExV,x.ok=true∧r=.ag [.v (.bool (x).s),.sl (lim (x).m).length (qc (lim (x).m)),.v (.int .i64 (x).e)]):=by
 refine Con.of_aw Tryz.func153 rfl Tryz.ntmps153 (by simp) (by simp) (by simp) (W.sound ?_)
 show @W Tryz.prog 11 ⟨_⟩ ⟨fun x σ=>@q9 _ _ _ ⟨_⟩ _ ⟨_⟩ x σ⟩ _ _
 simp(disch:=omega)only[go_sem]
 refine qu (qN l hl i h hi 17 (by omega)) ?_
 rintro r i1 h1 hi1 ⟨k,hk,rfl⟩
 simp(disch:=omega)only[go_sem]
 have hk2:=hk.2 (by omega)
 refine qa (Y9 (k-8) (by omega)) ?_
 simp(disch:=omega)only[go_sem]
 refine qu (qN l hl i1 h1 hi1 4 (by omega)) ?_
 rintro r i2 h2 hi2 ⟨q,hq,rfl⟩
 simp(disch:=omega)only[go_sem]
 have hq2:=hq.2 (by omega)
 have b6:bl (k-8).natAbs≤6:=zB.2 (by omega)
 have cf:=jP (decide (k-8<0)) (k-8).natAbs (0-q) (by omega) (by omega)
 have hf:(ExV.mk (decide (k-8<0)) (k-8).natAbs (0-q)).can.ok=true:=by
  rw[Xi]
  show yb (k-8).natAbs (0-q)=true
  exact asW (by omega) (by omega)
 have hc:ExV.mk (oS (decide (k-8<0)) (k-8).natAbs) (oM (k-8).natAbs) (oE (k-8).natAbs (0-q))=(ExV.mk (decide (k-8<0)) (k-8).natAbs (0-q)).can:=rfl
 rw[←hc]at hf
 generalize oS (decide (k-8<0)) (k-8).natAbs=S at*
 generalize oM (k-8).natAbs=M at*
 generalize oE (k-8).natAbs (0-q)=E at*
 refine qa (cf) ?_
 simp(disch:=omega)only[go_sem]
 refine qR (i2) (h2) ⟨⟨S,M,E⟩,hf,rfl⟩
theorem alQ(n:Nat)(hn:n≤4):Con Tryz.prog 242 false [.pt 10000000 0,.v (.int .i64 n)] [.own 0 [.sl l.length (qk l),.v (.int .i64 i),.v (.int .i64 h)]] (fun r hs bs=>(∃L:List ExV,L.length=n*n∧(∀x∈L,x.ok=true)∧r=.ag [.v (.int .i64 n),.rf 0 0 (n*n)]∧hs=[.own 3 (ql ExV.cs L)])∧∃i h:Int,(0≤i∧i≤l.length)∧bs=[.own 0 [.sl l.length (qk l),.v (.int .i64 i),.v (.int .i64 h)]]):=by
 have hq:=jv hn
 refine Con.of_aw Tryz.func242 rfl Tryz.ntmps242 (by simp) (by simp) (by simp) (W.sound ?_)
 show @W Tryz.prog 31 ⟨_⟩ ⟨fun x σ=>@q9 _ _ _ ⟨_⟩ _ ⟨_⟩ x σ⟩ _ _
 simp(disch:=omega)only[go_sem]
 refine zb (Js n hn) (by simp(disch:=omega)only[go_sem]) ?_
 rintro r hs ⟨rfl,rfl⟩
 refine⟨by simp[qT];simp(disch:=omega)only[go_sem],?_⟩
 simp(disch:=omega)only[go_sem]
 refine qh (fun x:List ExV×Int×Int=>[(0,.pt 10000000 0),(4,.pt 4 0),(5,.pt 5 0),(6,.v (.int .i64 x.1.length))])
  (fun x=>[(3,.own 3 (ql ExV.cs x.1++zO (n*n-x.1.length) z3)),(4,.own 0 [.v (.int .i64 0),.v (.slice none 0 0)]),(5,.own 0 [.v (.int .i64 n),.rf 3 0 (n*n)]),(10000000,.own 0 [.sl l.length (qk l),.v (.int .i64 x.2.1),.v (.int .i64 x.2.2)])])
  (fun x=>x.1.length≤n*n∧(∀y∈x.1,y.ok=true)∧(0≤x.2.1∧x.2.1≤l.length)) (fun x=>n*n-x.1.length) ([],i,h) ⟨by simp,by simp,hi⟩
  (Le.lst [(3,100000000),(4,60000000),(5,70000000)] _ _ rfl (by simp(disch:=omega)only[go_sem]) (by simp(disch:=omega)only[go_sem,j9,List.nil_append];try rfl)) ?_
 rintro⟨L,i2,h2⟩ ⟨hL,hok,hi2⟩
 dsimp only at hL hok hi2 ⊢
 simp(disch:=omega)only[go_sem]
 refine qe (fun c1=>?_) (fun c1=>?_)
 ·obtain⟨k,hk⟩:∃k,n*n-L.length=k+1:=⟨n*n-L.length-1,by omega⟩
  rw[hk]
  simp(disch:=omega)only[go_sem,c1]
  refine qu (qQ l hl i2 h2 hi2 25 (by omega)) ?_
  rintro r i3 h3 hi3 ⟨b,rfl⟩
  simp(disch:=omega)only[go_sem]
  cases b
  ·simp(disch:=omega)only[go_sem]
   refine qs rfl [⟨0,[],[]⟩,⟨1,[],[]⟩,⟨2,[1],[]⟩,⟨3,[1],[]⟩,⟨4,[1],[]⟩,⟨5,[],[]⟩,⟨6,[],[]⟩] (by kernel_rfl) ?_
   simp(disch:=omega)only[go_sem]
   refine qu (Jr l hl i3 h3 hi3) ?_
   rintro r i4 h4 hi4 ⟨x,hx,rfl⟩
   simp(disch:=omega)only[go_sem]
   have hl3:(L++[x]).length=L.length+1:=by simp
   rw[ZA]
   refine⟨by omega,by rw[List.length_append,yw,Xo];omega,qb (L++[x],i4,h4) [] ⟨by dsimp only;omega,fun y hy=>?_,hi4⟩ (by show n*n-(L++[x]).length<k+1;omega) rfl (by simp(disch:=omega)only[go_sem,hl3];try omega) (by simp(disch:=omega)only[go_sem,hl3,show n*n-(L.length+1)=k by omega])⟩
   rcases List.mem_append.1 hy with hy|hy
   ·exact hok y hy
   ·rw[List.mem_singleton.1 hy];exact hx
  ·simp(disch:=omega)only[go_sem]
   refine qs rfl [⟨0,[],[]⟩,⟨1,[],[]⟩,⟨2,[1],[]⟩,⟨3,[1],[]⟩,⟨4,[1],[]⟩,⟨5,[],[]⟩,⟨6,[],[]⟩] (by kernel_rfl) ?_
   simp(disch:=omega)only[go_sem]
   refine qu (Yl l hl i3 h3 hi3) ?_
   rintro r i4 h4 hi4 ⟨x,hx,rfl⟩
   simp(disch:=omega)only[go_sem]
   have hl3:(L++[x]).length=L.length+1:=by simp
   rw[ZA]
   refine⟨by omega,by rw[List.length_append,yw,Xo];omega,qb (L++[x],i4,h4) [] ⟨by dsimp only;omega,fun y hy=>?_,hi4⟩ (by show n*n-(L++[x]).length<k+1;omega) rfl (by simp(disch:=omega)only[go_sem,hl3];try omega) (by simp(disch:=omega)only[go_sem,hl3,show n*n-(L.length+1)=k by omega])⟩
   rcases List.mem_append.1 hy with hy|hy
   ·exact hok y hy
   ·rw[List.mem_singleton.1 hy];exact hx
 ·obtain hLn:L.length=n*n:=by omega
  simp(disch:=omega)only[go_sem,c1]
  refine qi [(0,3)] [.own 3 (ql ExV.cs L)] [.own 0 [.sl l.length (qk l),.v (.int .i64 i2),.v (.int .i64 h2)]] [.ag [.v (.int .i64 n),.rf 0 0 (n*n)]] rfl (by simp(disch:=omega)only[go_sem]) (by simp(disch:=omega)only[go_sem,hLn,Nat.sub_self,amx,List.append_nil]) (by simp) (by simp) ⟨⟨L,hLn,hok,rfl,rfl⟩,_,_,hi2,rfl⟩
theorem aQK:Con Tryz.prog 109 false [.pt 10000000 0] [.own 0 [.sl l.length (qk l),.v (.int .i64 i),.v (.int .i64 h)]] (Yd l fun r=>∃n:Nat,(1≤n∧n≤4)∧r=.v (.int .i64 n)):=by
 refine Con.of_aw Tryz.func109 rfl Tryz.ntmps109 (by simp) (by simp) (by simp) (W.sound ?_)
 show @W Tryz.prog 6 ⟨_⟩ ⟨fun x σ=>@q9 _ _ _ ⟨_⟩ _ ⟨_⟩ x σ⟩ _ _
 simp(disch:=omega)only[go_sem]
 refine qu (qN l hl i h hi 4 (by omega)) ?_
 rintro r i1 h1 hi1 ⟨k,hk,rfl⟩
 simp(disch:=omega)only[go_sem]
 have hk2:=hk.2 (by omega)
 obtain⟨m,rfl⟩:=Int.eq_ofNat_of_zero_le hk.1
 refine qR (i1) (h1) ⟨m+1,by omega,by rw[show((m+1:Nat):Int)=1+(m:Int) by omega];rfl⟩
def aT6(r:AV):Prop:=∃(n:Int) (l:List DyV),l.length≤16∧(∀d∈l,d.xs.length≤200)∧r=.ag [.v (.int .i64 n),.sl l.length (ql DyV.cs l)]
omit hl hi in
theorem ar9{n:Int}{L:List DyV}{o k:Nat}(h1:L.length=o+k)(h2:L.length≤16)(h3:∀d∈L,d.xs.length≤200):aT6 (qG (rhp [.own 3 (ql DyV.cs L)] []) 6 (.ag [.v (.int .i64 n),.rf 0 (o*3) k])):=by
 refine⟨n,(L.drop o).take k,?_,fun d hd=>h3 d (List.mem_of_mem_drop (List.mem_of_mem_take hd)),?_⟩
 ·rw[List.length_take,List.length_drop];omega
 ·have e:((L.drop o).take k).length=k:=by rw[List.length_take,List.length_drop];omega
  rw[e]
  show AV.ag [_,qG _ 5 (.rf 0 (o*3) k)]=_
  simp only[aeP,q6]
  rw[arE Yc,agx]
  rfl
omit hl hi in
theorem arC(L:List ExV):ql ExV.cs L=ql DyV.cs (L.map ExV.dy):=aI8 L
def bip(n:Nat)(r:AV)(hs:List Ob):Prop:=∃(k:Int) (M:List DyV) (o m:Nat),M.length=o+m∧o≤1∧M.length=n*n∧(∀d∈M,d.xs.length≤200)∧r=.ag [.v (.int .i64 k),.rf 0 (o*3) m]∧hs=[.own 3 (ql DyV.cs M)]
theorem afv(n:Nat)(hn:1≤n∧n≤4):Con Tryz.prog 154 false [.pt 10000000 0,.v (.int .i64 n)] [.own 0 [.sl l.length (qk l),.v (.int .i64 i),.v (.int .i64 h)]] (fun r hs bs=>bip n r hs∧∃i h:Int,(0≤i∧i≤l.length)∧bs=[.own 0 [.sl l.length (qk l),.v (.int .i64 i),.v (.int .i64 h)]]):=by
 have hq:=jv hn.2
 refine Con.of_aw Tryz.func154 rfl Tryz.ntmps154 (by simp) (by simp) (by simp) (W.sound ?_)
 show @W Tryz.prog 33 ⟨_⟩ ⟨fun x σ=>@q9 _ _ _ ⟨_⟩ _ ⟨_⟩ x σ⟩ _ _
 simp(disch:=omega)only[go_sem]
 refine QH false [10000000] (alQ l hl i h hi n hn.2) (by simp(disch:=omega)only[go_sem]) (by simp(disch:=omega)only[go_sem]) rfl (qX (z:=0) (cs:=[.sl l.length (qk l),.v (.int .i64 i),.v (.int .i64 h)]) (by simp(disch:=omega)only[go_sem]) (by simp(disch:=omega)only[go_sem])) (by intro n hn;exact⟨_,List.mem_cons_self ..,by rw[List.mem_singleton.1 hn];rfl⟩) ?_
 rintro r hs bs ⟨⟨L,hL,hok,rfl,rfl⟩,i1,h1,hi1,rfl⟩-
 refine⟨by simp[qT];simp(disch:=omega)only[go_sem],?_⟩
 simp(disch:=omega)only[go_sem]
 have h16:(L.map ExV.dy).length=n*n:=by rw[List.length_map];exact hL
 have h200:∀d∈L.map ExV.dy,d.xs.length≤200:=fun d hd=>by
  obtain⟨x,hx,rfl⟩:=List.mem_map.1 hd
  have:=(yq (hok x hx)).2.2.1
  show(lim x.m).length≤200
  omega
 rw[arC]
 generalize L.map ExV.dy=M at*
 refine qu (qQ l hl i1 h1 hi1 12 (by omega)) ?_
 rintro r i2 h2 hi2 ⟨b,rfl⟩
 simp(disch:=omega)only[go_sem]
 cases b
 ·simp(disch:=omega)only[go_sem]
  refine qi [(0,100000000)] [.own 3 (ql DyV.cs M)] [.own 0 [.sl l.length (qk l),.v (.int .i64 i2),.v (.int .i64 h2)]] [.ag [.v (.int .i64 n),.rf 0 (0*3) (n*n)]] rfl (by simp(disch:=omega)only[go_sem]) (by simp(disch:=omega)only[go_sem]) (by simp) (by simp) ⟨⟨_,M,0,n*n,by omega,by omega,h16,h200,rfl,rfl⟩,_,_,hi2,rfl⟩
 ·simp(disch:=omega)only[go_sem]
  refine qu (qN l hl i2 h2 hi2 3 (by omega)) ?_
  rintro r i3 h3 hi3 ⟨q,hq,rfl⟩
  simp(disch:=omega)only[go_sem]
  by_cases c0:q=0
  ·simp(disch:=omega)only[go_sem,c0]
   refine zA (qP l hl i3 h3 hi3 [0,(n:Int)+1, -1] (by simp) (by simp)) ?_
   rintro r i4 h4 hi4 ⟨y,hy,rfl⟩
   clear hy
   simp(disch:=omega)only[go_sem]
   refine qi [(0,100000000)] [.own 3 (ql DyV.cs M)] [.own 0 [.sl l.length (qk l),.v (.int .i64 i4),.v (.int .i64 h4)]] [.ag [.v (.int .i64 y),.rf 0 (0*3) (n*n)]] rfl (by simp(disch:=omega)only[go_sem]) (by simp(disch:=omega)only[go_sem]) (by simp) (by simp) ⟨⟨_,M,0,n*n,by omega,by omega,h16,h200,rfl,rfl⟩,_,_,hi4,rfl⟩
  by_cases c1:q=1
  ·simp(disch:=omega)only[go_sem,c0,c1]
   have h1n:1≤n*n:=Nat.mul_le_mul hn.1 hn.1
   refine⟨by omega,?_⟩
   rw[show(((n*n:Nat):Int)-1).toNat=n*n-1 by omega]
   refine qi [(0,100000000)] [.own 3 (ql DyV.cs M)] [.own 0 [.sl l.length (qk l),.v (.int .i64 i3),.v (.int .i64 h3)]] [.ag [.v (.int .i64 n),.rf 0 (1*3) (n*n-1)]] rfl (by simp(disch:=omega)only[go_sem]) (by simp(disch:=omega)only[go_sem]) (by simp) (by simp) ⟨⟨_,M,1,n*n-1,by omega,by omega,h16,h200,rfl,rfl⟩,_,_,hi3,rfl⟩
  simp(disch:=omega)only[go_sem,c0,c1]
  refine qs rfl [⟨0,[],[]⟩,⟨1,[],[]⟩,⟨2,[1],[]⟩,⟨3,[1],[]⟩,⟨4,[],[]⟩,⟨5,[],[]⟩] (by kernel_rfl) ?_
  simp(disch:=omega)only[go_sem]
  have h1n:1≤n*n:=Nat.mul_le_mul hn.1 hn.1
  obtain⟨d0,M,rfl⟩:∃d0 M',M=d0::M':=by
   cases M with
   |nil=>simp at h16;omega
   |cons d M=>exact⟨d,M,rfl⟩
  refine qu (alV l hl i3 h3 hi3) ?_
  rintro r i4 h4 hi4 ⟨⟨S,xs,E⟩,hd,hr⟩
  obtain rfl:r=.ag [.v (.bool S),.sl xs.length (qc xs),.v (.int .i64 E)]:=hr
  dsimp only at hd
  simp(disch:=omega)only[go_sem,aG8]
  refine⟨by omega,by omega,qi [(0,100000000)] [.own 3 (ql DyV.cs (⟨S,xs,E⟩::M))] [.own 0 [.sl l.length (qk l),.v (.int .i64 i4),.v (.int .i64 h4)]] [.ag [.v (.int .i64 n),.rf 0 (0*3) (n*n)]] rfl (by simp(disch:=omega)only[go_sem]) (by simp(disch:=omega)only[go_sem]) (by simp) (by simp) ⟨⟨_,_,0,n*n,by simp at h16 ⊢;omega,by omega,by simp at h16 ⊢;omega,(fun d hd'=>?_),rfl,rfl⟩,_,_,hi4,rfl⟩⟩
  rcases List.mem_cons.1 hd' with rfl|hd'
  ·exact hd
  ·exact h200 d (List.mem_cons_of_mem _ hd')
theorem alS(n:Nat)(hn:1≤n∧n≤4):Con Tryz.prog 154 false [.pt 10000000 0,.v (.int .i64 n)] [.own 0 [.sl l.length (qk l),.v (.int .i64 i),.v (.int .i64 h)]] (Yd l aT6):=by
 have hq:=jv hn.2
 refine Con.cur l i h (Q:=fun r hs=>(∀ob∈hs,ob.men fun _=>False)∧aT6 (qG (rhp hs []) 6 r)) ((afv l hl i h hi n hn).mono ?_) fun _ _ h=>h
 rintro r hs bs ⟨⟨k,M,o,m,h1, -,h2,h3,rfl,rfl⟩,hc⟩
 exact⟨⟨fun ob ho=>by rw[List.mem_singleton.1 ho];exact of_eq_true afh,ar9 h1 (by omega) h3⟩,hc⟩
end
end Go.Ab
namespace Go.Ab
open Go Go.Proofs
/-! ### Minors and determinants-/
def mnC(n:Nat)(l:List ExV)(r c i:Nat):Nat→List ExV
 |0=>[]
 |j+1=>if i≠r∧j≠c then mnC n l r c i j++[l.getD (i*n+j) ex0]else mnC n l r c i j
def mnR(n:Nat)(l:List ExV)(r c:Nat):Nat→List ExV
 |0=>[]
 |i+1=>mnR n l r c i++mnC n l r c i n
theorem ae2{n:Nat}{l:List ExV}{r c i:Nat}:∀j,(mnC n l r c i j).length≤j
 |0=>Nat.le_refl _
 |j+1=>by
  have:=ae2 (n:=n) (l:=l) (r:=r) (c:=c) (i:=i) j
  rw[mnC];split
  ·rw[List.length_append];simp;omega
  ·omega
theorem ae0{n:Nat}{l:List ExV}{r c:Nat}:∀i,(mnR n l r c i).length≤i*n
 |0=>by simp[mnR]
 |i+1=>by
  have h1:=ae0 (n:=n) (l:=l) (r:=r) (c:=c) i
  have h2:=ae2 (n:=n) (l:=l) (r:=r) (c:=c) (i:=i) n
  rw[mnR,List.length_append,Nat.succ_mul];omega
theorem aa6(n:Nat)(l:List ExV)(r c:Nat)(hn:1≤n∧n≤4)(hl:l.length=n*n)(hr:r<n)(hc:c<n):Con Tryz.prog 186 false [.ag [.v (.int .i64 (n)),.sl (l).length (ql ExV.cs (l))],.v (.int .i64 r),.v (.int .i64 c)] [] (isA (.ag [.v (.int .i64 (n-1)),.sl (mnR n l r c n).length (ql ExV.cs (mnR n l r c n))])):=by
 refine Con.frzA ?_
 have hq:=jv hn.2
 refine Con.of_aw Tryz.func186 rfl Tryz.ntmps186 (by simp) (by simp) (by simp) (W.sound ?_)
 show @W Tryz.prog 44 ⟨_⟩ ⟨fun x σ=>@q9 _ _ _ ⟨_⟩ _ ⟨_⟩ x σ⟩ _ _
 simp(disch:=omega)only[go_sem]
 have hE:∀i j:Nat,i<n→j<n→i*n+j<l.length:=fun i j hi hj=>by rw[hl];exact qS hi hj
 refine qh (fun i:Nat=>[(1,.v (.int .i64 r)),(2,.v (.int .i64 c)),(3,.pt 1 0),(6,.pt 2 0),(7,.pt 3 0),(15,.v (.int .i64 n)),(16,.v (.int .i64 i))])
  (fun i=>[(1,.own 0 [.v (.int .i64 n),.sl l.length (ql ExV.cs l)]),(2,.own 0 [.v (.int .i64 0),.v (.slice none 0 0)]),(3,.own 0 [.v (.int .i64 (n-1)),.rf 4 0 (mnR n l r c i).length]),(4,.own 3 (ql ExV.cs (mnR n l r c i)))]) (fun i=>i≤n) (fun i=>n-i) 0 (by omega)
  ((Le.ghostC 90000000 1 4 3 (zo:=0) (cs:=[.v (.int .i64 (n-1)),.v (.slice none 0 0)]) (by simp(disch:=omega)only[go_sem]) rfl (by simp(disch:=omega)only[go_sem])).trans (Le.lst [(1,50000000),(2,80000000),(3,90000000)] _ _ rfl (by simp(disch:=omega)only[go_sem]) (by simp(disch:=omega)only[go_sem,show mnR n l r c 0=[] from rfl,j9,List.length_nil,List.set_cons_succ,List.set_cons_zero]))) ?_
 intro i hi
 simp(disch:=omega)only[go_sem]
 refine qe (fun h1=>?_) (fun h1=>?_)
 ·simp(disch:=omega)only[go_sem,h1]
  generalize hA:mnR n l r c i=A at*
  refine qh (fun j:Nat=>[(1,.v (.int .i64 r)),(2,.v (.int .i64 c)),(3,.pt 1 0),(6,.pt 2 0),(7,.pt 3 0),(8,.v (.int .i64 i)),(15,.v (.int .i64 n)),(16,.v (.int .i64 i)),(20,.v (.int .i64 n)),(21,.v (.int .i64 j))])
   (fun j=>[(1,.own 0 [.v (.int .i64 n),.sl l.length (ql ExV.cs l)]),(2,.own 0 [.v (.int .i64 0),.v (.slice none 0 0)]),(3,.own 0 [.v (.int .i64 (n-1)),.rf 4 0 (A++mnC n l r c i j).length]),(4,.own 3 (ql ExV.cs (A++mnC n l r c i j)))]) (fun j=>j≤n) (fun j=>n-j) 0 (by omega)
   (Le.lst [] _ _ rfl (by simp(disch:=omega)only[go_sem]) (by simp(disch:=omega)only[go_sem,show mnC n l r c i 0=[] from rfl,List.append_nil])) ?_
  intro j hj
  have hs:mnC n l r c i (j+1)=if i≠r∧j≠c then mnC n l r c i j++[l.getD (i*n+j) ex0]else mnC n l r c i j:=rfl
  have hlen:(A++mnC n l r c i j).length≤40:=by
   have h3:=@ae2 n l r c i j
   have h4:=@ae0 n l r c i
   rw[hA]at h4
   have:i*n≤n*n:=Nat.mul_le_mul_right n (by omega)
   rw[List.length_append];omega
  generalize hB:mnC n l r c i j=B at*
  simp(disch:=omega)only[go_sem]
  refine qe (fun h2=>?_) (fun h2=>?_)
  ·by_cases c1:i=r
   ·rw[if_neg (fun h=>h.1 c1)]at hs
    simp(disch:=omega)only[go_sem,h2,decide_eq_true (show(i:Int)=r by omega)]
    exact qb (j+1) [] (by show j+1≤n;omega) (by show n-(j+1)<n-j;omega) rfl (by simp(disch:=omega)only[go_sem];try omega) (by simp(disch:=omega)only[go_sem,hs])
   by_cases c2:j=c
   ·rw[if_neg (fun h=>h.2 c2)]at hs
    simp(disch:=omega)only[go_sem,h2,decide_eq_false (show ¬(i:Int)=r by omega),decide_eq_true (show(j:Int)=c by omega)]
    exact qb (j+1) [] (by show j+1≤n;omega) (by show n-(j+1)<n-j;omega) rfl (by simp(disch:=omega)only[go_sem];try omega) (by simp(disch:=omega)only[go_sem,hs])
   ·rw[if_pos ⟨c1,c2⟩]at hs
    have ca:=yi n l i j (hE i j (by omega) (by omega)) (by omega) (by omega) (by omega) (by omega)
    generalize l.getD (i*n+j) ex0=x at*
    simp(disch:=omega)only[go_sem,h2,decide_eq_false (show ¬(i:Int)=r by omega),decide_eq_false (show ¬(j:Int)=c by omega)]
    refine qs rfl [⟨0,[],[]⟩,⟨1,[],[]⟩,⟨2,[1],[]⟩,⟨3,[1,2],[]⟩,⟨4,[1,2],[]⟩,⟨5,[1],[]⟩,⟨6,[1],[]⟩,⟨7,[],[]⟩,⟨8,[],[]⟩,⟨9,[],[]⟩] (by kernel_rfl) ?_
    simp(disch:=omega)only[go_sem]
    refine qa (ca) ?_
    simp(disch:=omega)only[go_sem]
    have hl4:(A++B++[x]).length=(A++B).length+1:=by simp;omega
    exact⟨by omega,qb (j+1) [(4,410000000)] (by show j+1≤n;omega) (by show n-(j+1)<n-j;omega) rfl (by simp(disch:=omega)only[go_sem];try omega) (by simp(disch:=omega)only[go_sem,hs,(List.append_assoc A B [x]).symm,hl4,aff,j8])⟩
  ·obtain rfl:j=n:=by omega
   have hs2:mnR j l r c (i+1)=A++B:=by rw[mnR,hA,hB]
   simp(disch:=omega)only[go_sem,h2]
   exact qb (i+1) [] (by show i+1≤j;omega) (by show j-(i+1)<j-i;omega) rfl (by simp(disch:=omega)only[go_sem];try omega) (by simp(disch:=omega)only[go_sem,hs2])
 ·obtain rfl:i=n:=by omega
  have hl2:=@ae0 i l r c i
  simp(disch:=omega)only[go_sem,h1]
  generalize mnR i l r c i=A at*
  refine qi [(0,4)] [.own 3 (ql ExV.cs A)] [] [.ag [.v (.int .i64 (i-1)),.rf 0 0 A.length]] rfl (by simp(disch:=omega)only[go_sem]) (by simp(disch:=omega)only[go_sem]) (by simp) (by simp) ?_
  show qG _ 6 _=_
  simp(disch:=omega)only[go_sem,q6,aff]
def ExV.sgn(x:ExV)(k:Nat):ExV:=if k % 2=1 then x.neg else x
theorem Yi(x:ExV)(k:Nat)(hk:k≤100):Con Tryz.prog 187 false [.ag [.v (.bool (x).s),.sl (lim (x).m).length (qc (lim (x).m)),.v (.int .i64 (x).e)],.v (.int .i64 k)] [] (isA (.ag [.v (.bool (x.sgn k).s),.sl (lim (x.sgn k).m).length (qc (lim (x.sgn k).m)),.v (.int .i64 (x.sgn k).e)])):=by
 refine Con.frzA ?_
 have cn:=agC x
 unfold ExV.sgn
 refine Con.of_w (rs:=[.cell 4 117]) Tryz.func187 rfl Tryz.ntmps187 rfl ?_
 simp(disch:=omega)only[go_sem]
 by_cases h:k % 2=1
 ·rw[if_pos h]
  generalize x.neg=y at*
  simp(disch:=omega)only[go_sem,decide_eq_true (show(k:Int) % 2=1 by omega)]
  refine qa (cn) ?_
  simp(disch:=omega)only[go_sem]
  exact qj
 ·rw[if_neg h]
  simp(disch:=omega)only[go_sem,decide_eq_false (show ¬(k:Int) % 2=1 by omega)]
  exact qj
theorem ExV.sgn_bd{lo hi:Int}{x:ExV}{k:Nat}(h:x.bd lo hi):(x.sgn k).bd lo hi:=by
 unfold ExV.sgn;split
 ·exact ExV.neg_bd h
 ·exact h
def jG:Nat→List ExV→ExV
 |0,_=>ex1
 |n+1,l=>(List.range (n+1)).foldl (fun s j=>s.plus (((l.getD (0*(n+1)+j) ex0).times (jG n (mnR (n+1) l 0 j (n+1)))).sgn j)) ex0
theorem ae1{n:Nat}{l:List ExV}{r c i:Nat}(hl:l.length=n*n)(hi:i<n):∀j,j≤n→∀x∈mnC n l r c i j,x∈l
 |0,_,x,hx=>by cases hx
 |j+1,hj,x,hx=>by
  rw[mnC]at hx
  split at hx
  ·rcases List.mem_append.1 hx with hx|hx
   ·exact ae1 hl hi j (by omega) x hx
   ·rw[List.mem_singleton.1 hx,List.getD_eq_getElem?_getD,List.getElem?_eq_getElem (by rw[hl];exact qS hi (by omega))]
    exact List.getElem_mem _
  ·exact ae1 hl hi j (by omega) x hx
theorem Z1{n:Nat}{l:List ExV}{r c:Nat}(hl:l.length=n*n):∀i,i≤n→∀x∈mnR n l r c i,x∈l
 |0,_,x,hx=>by cases hx
 |i+1,hi,x,hx=>by
  rw[mnR]at hx
  rcases List.mem_append.1 hx with hx|hx
  ·exact Z1 hl i (by omega) x hx
  ·exact ae1 hl (by omega) n (Nat.le_refl n) x hx
theorem agf{n:Nat}{l:List ExV}{r c i:Nat}:∀j,(mnC n l r c i j).length=if i=r then 0 else if c<j then j-1 else j
 |0=>by simp[mnC]
 |j+1=>by
  have:=agf (n:=n) (l:=l) (r:=r) (c:=c) (i:=i) j
  rw[mnC]
  by_cases h1:i=r
  ·rw[if_neg (by omega),this];simp[h1]
  ·rw[if_neg h1]at this ⊢
   by_cases h2:j=c
   ·rw[if_neg (by omega),this];split<;>split<;>omega
   ·rw[if_pos ⟨h1,h2⟩,List.length_append,this];simp;split<;>split<;>omega
theorem Qs{n:Nat}{l:List ExV}{r c:Nat}(hc:c<n):∀i,(mnR n l r c i).length=(if r<i then i-1 else i)*(n-1)
 |0=>by simp[mnR]
 |i+1=>by
  rw[mnR,List.length_append,Qs hc i,agf]
  by_cases h1:i=r
  ·rw[if_pos h1,if_neg (by omega),if_pos (by omega)];simp
  ·rw[if_neg h1,if_pos hc]
   by_cases h2:r<i
   ·rw[if_pos h2,if_pos (by omega),show i+1-1=(i-1)+1 by omega,Nat.add_mul,Nat.one_mul]
   ·rw[if_neg h2,if_neg (by omega),Nat.add_mul,Nat.one_mul]
theorem Q2:∀(n:Nat) {l:List ExV},n≤4→l.length=n*n→gbd (-10000) 10000 l→(jG n l).bd (-10000*n) (10004*n+1)
 |0,l,_,_,_=>⟨fun _=>rfl,by show _≤(0:Int);omega,by show(bl 1:Int)+0≤_;have:bl 1≤1:=zB.2 (by decide);omega⟩
 |n+1,l,hn,hl,hb=>by
  rw[jG]
  refine(Qz (lo:= -10000*(n+1)) (hi:=10004*n+10001) (fun j=>((l.getD (0*(n+1)+j) ex0).times (jG n (mnR (n+1) l 0 j (n+1)))).sgn j) (by omega) (n+1) (fun j hj=>?_)).mono (by omega) (by omega)
  have h1:=qJ hb (i:=0*(n+1)+j) (by rw[hl];exact qS (by omega) hj)
  have h2:=Q2 n (l:=mnR (n+1) l 0 j (n+1)) (by omega) (by rw[Qs hj,if_pos (by omega)];rfl) (fun x hx=>hb x (Z1 hl _ (Nat.le_refl _) x hx))
  exact ExV.sgn_bd ((ExV.times_bd h1 h2).mono (by omega) (by omega))
set_option maxRecDepth 100000 in
theorem afG(n:Nat):∀L:List ExV,n≤4→L.length=n*n→gbd (-10000) 10000 L→Con Tryz.prog 91 false [.ag [.v (.int .i64 (n)),.sl (L).length (ql ExV.cs (L))]] [] (isA (.ag [.v (.bool (jG n L).s),.sl (lim (jG n L).m).length (qc (lim (jG n L).m)),.v (.int .i64 (jG n L).e)])):=by
 induction n with
 |zero=>
  intro L hn hl hb
  refine Con.frzA ?_
  have c1:=ZB
  unfold jG
  generalize ex1=y at*
  refine Con.of_w (rs:=[.cell 2 117]) Tryz.func91 rfl Tryz.ntmps91 rfl ?_
  simp(disch:=omega)only[go_sem]
  refine qa (c1) ?_
  simp(disch:=omega)only[go_sem]
  exact qj
 |succ n ih=>
  intro L hn hl hb
  refine Con.frzA ?_
  refine Con.of_w (rs:=[.cell 2 117]) Tryz.func91 rfl Tryz.ntmps91 rfl ?_
  simp(disch:=omega)only[go_sem]
  obtain⟨N,hN⟩:∃N,N=n+1:=⟨_,rfl⟩
  rw[←hN]at hn hl
  have hd:jG (n+1) L=(List.range N).foldl (fun s j=>s.plus (((L.getD (0*N+j) ex0).times (jG n (mnR N L 0 j N))).sgn j)) ex0:=by rw[hN];rfl
  rw[hd,←hN]
  simp(disch:=omega)only[go_sem,decide_eq_false (show ¬(N:Int)=0 by omega)]
  have hb2:=Qz (lo:= -10000*(n+1)) (hi:=10004*n+10001) (fun j=>((L.getD (0*N+j) ex0).times (jG n (mnR N L 0 j N))).sgn j) (by omega)
  obtain⟨D,hD⟩:∃D:Nat→ExV,D=fun k=>(List.range k).foldl (fun s j=>s.plus (((L.getD (0*N+j) ex0).times (jG n (mnR N L 0 j N))).sgn j)) ex0:=⟨_,rfl⟩
  have hDs:∀k,D (k+1)=(D k).plus (((L.getD (0*N+k) ex0).times (jG n (mnR N L 0 k N))).sgn k):=fun k=>by rw[hD];simp only[List.range_succ,List.foldl_append,List.foldl_cons,List.foldl_nil]
  have hD0:D 0=ex0:=by rw[hD];rfl
  have hDN:(List.range N).foldl (fun s j=>s.plus (((L.getD (0*N+j) ex0).times (jG n (mnR N L 0 j N))).sgn j)) ex0=D N:=by rw[hD]
  have hDb:∀k,k≤N→(D k).bd (-40000) 40020:=fun k hk=>by
   rw[hD]
   refine(hb2 k fun j hj=>?_).mono (by omega) (by omega)
   have h1:=qJ hb (i:=0*N+j) (by rw[hl];exact qS (by omega) (by omega))
   have h2:=Q2 n (l:=mnR N L 0 j N) (by omega) (by rw[Qs (by omega),if_pos (by omega),hN];rfl) (fun x hx=>hb x (Z1 hl _ (Nat.le_refl _) x hx))
   exact ExV.sgn_bd ((ExV.times_bd h1 h2).mono (by omega) (by omega))
  rw[hDN]
  clear hb2 hd hDN
  refine qh (fun j:Nat=>[(1,.pt 1 0),(2,.pt 2 0),(3,.pt 3 0),(10,.v (.int .i64 N)),(11,.v (.int .i64 j))])
   (fun j=>[(1,.own 0 [.v (.int .i64 N),.sl L.length (ql ExV.cs L)]),(2,.own 0 [.v (.bool false),.v (.slice none 0 0),.v (.int .i64 0)]),(3,.own 0 [.v (.bool (D j).s),.sl (lim (D j).m).length (qc (lim (D j).m)),.v (.int .i64 (D j).e)])]) (fun j=>j≤N) (fun j=>N-j) 0 (by omega)
   ((Le.nilC 50000000 1 (zo:=0) (cs:=[.v (.bool false),.v (.slice none 0 0),.v (.int .i64 0)]) (by simp(disch:=omega)only[go_sem]) rfl).trans (Le.lst [(1,30000000),(2,40000000),(3,50000000)] _ _ rfl (by simp(disch:=omega)only[go_sem]) (by simp(disch:=omega)only[go_sem,List.set_cons_succ,List.set_cons_zero,hD0,ex0,qo]))) ?_
  intro j hj
  have hs:=hDs j
  have hjb:=hDb j hj
  generalize hA:D j=A at*
  simp(disch:=omega)only[go_sem]
  refine qe (fun h1=>?_) (fun h1=>?_)
  ·have hm:(mnR N L 0 j N).length=n*n:=by rw[Qs (by omega),if_pos (by omega),hN];rfl
   have hmb:gbd (-10000) 10000 (mnR N L 0 j N):=fun x hx=>hb x (Z1 hl _ (Nat.le_refl _) x hx)
   have ca:=yi N L 0 j (by rw[hl];exact qS (by omega) (by omega)) (by have:=jv hn;omega) (by omega) (by omega) (by omega)
   have cm:=aa6 N L 0 j (by omega) hl (by omega) (by omega)
   have cd:=ih (mnR N L 0 j N) (by omega) hm hmb
   have h1b:=qJ hb (i:=0*N+j) (by rw[hl];exact qS (by omega) (by omega))
   have h2b:=Q2 n (by omega) hm hmb
   rw[show((N:Int)-1)=(n:Int) by omega]at cm
   generalize L.getD (0*N+j) ex0=x at*
   generalize jG n (mnR N L 0 j N)=y at*
   generalize mnR N L 0 j N=M at*
   have ct:=yL x y (h1b.mono (by omega) (by omega)) (h2b.mono (by omega) (by omega))
   have bt:=ExV.times_bd h1b h2b
   generalize x.times y=z at*
   have bs:=ExV.sgn_bd (k:=j) bt
   simp(disch:=omega)only[go_sem,h1]
   refine qs rfl [⟨0,[],[]⟩,⟨1,[0],[]⟩,⟨2,[0,1],[]⟩,⟨4,[0,1],[]⟩,⟨5,[0,1,4],[]⟩,⟨9,[0,1,4],[]⟩,⟨3,[0,4],[]⟩,⟨6,[0],[]⟩,⟨7,[0],[]⟩,⟨8,[0],[]⟩,⟨10,[0],[]⟩,⟨11,[],[]⟩,⟨12,[],[]⟩] (by kernel_rfl) ?_
   simp(disch:=omega)only[go_sem]
   refine qa (ca) ?_
   simp(disch:=omega)only[go_sem]
   refine qa (cm) ?_
   simp(disch:=omega)only[go_sem]
   refine qa (cd) ?_
   simp(disch:=omega)only[go_sem]
   refine qa (ct) ?_
   simp(disch:=omega)only[go_sem]
   refine qa (Yi z j (by omega)) ?_
   simp(disch:=omega)only[go_sem]
   refine qa (zW A (z.sgn j) (hjb.mono (by omega) (by omega)) (bs.mono (by omega) (by omega))) ?_
   simp(disch:=omega)only[go_sem]
   exact qb (j+1) [] (by show j+1≤N;omega) (by show N-(j+1)<N-j;omega) rfl (by simp(disch:=omega)only[go_sem];try omega) (by simp(disch:=omega)only[go_sem,hs])
  ·obtain rfl:j=N:=by omega
   rw[hA]
   simp(disch:=omega)only[go_sem,h1]
   exact qj
end Go.Ab
namespace Go.Ab
open Go Go.Proofs
theorem atk(x:ExV)(h:x.ok=true):Con Tryz.prog 130 false [.ag [.v (.bool (x).s),.sl (lim (x).m).length (qc (lim (x).m)),.v (.int .i64 (x).e)]] [] (isA (.ag [.v (.bool (x).s),.sl (lim (x).m).length (qc (lim (x).m)),.v (.int .i64 (x).e)])):=by
 refine Con.frzA ?_
 obtain⟨a1,a2,a3,a4,a5⟩:=yq h
 have cm:=zq x.s x.m (by omega)
 rw[show(x.s&&decide (x.m≠0))=x.s by
  by_cases h0:x.m=0
  ·rw[(a4 h0).1];rfl
  ·simp[h0]]at cm
 refine Con.of_w (rs:=[.cell 2 42]) Tryz.func130 rfl Tryz.ntmps130 rfl ?_
 simp(disch:=omega)only[go_sem]
 refine qs rfl [⟨0,[],[]⟩,⟨1,[],[]⟩,⟨2,[],[]⟩,⟨3,[2],[]⟩,⟨4,[2],[]⟩,⟨5,[2],[]⟩,⟨7,[2,5],[]⟩,⟨8,[2,5],[]⟩,⟨6,[8],[]⟩,⟨9,[],[]⟩,⟨10,[],[]⟩] (by kernel_rfl) ?_
 simp(disch:=omega)only[go_sem]
 refine qa (cm) ?_
 simp(disch:=omega)only[go_sem]
 exact qj
def blb(x y:ExV):ExV:=if x.val 3000≤y.val 3000 then x else y
def bk6(x y:ExV):ExV:=if y.val 3000≤x.val 3000 then x else y
section
variable (l:List UInt8)(hl:l.length≤9223372036854775807)(i h:Int)(hi:0≤i∧i≤l.length)
include hl hi
end
end Go.Ab
namespace Go.Ab
open Go Go.Proofs
/-! ### Rounding down and up-/
def rnF(s:Bool)(a b:Nat)(low mode:Int):FlV:=⟨flK s mode (rq s a b mode) low,s,bhV s mode (rq s a b mode) low,bhW s mode (rq s a b mode) low⟩
def upQ(a b:Nat):Nat:=if a % b=0 then a/b else a/b+1
def isN(F:FlV):Bool:=decide (F.k=0)||decide (F.k=1)
def rqB(s:Bool)(a b:Nat)(low mode:Int):Prop:=rq s a b mode≠0∧1024<(bl (rq s a b mode):Int)+low
end Go.Ab
namespace Go.Ab
def stk(A B:Nat):Nat:=2*(A/B)+(if A % B=0 then 0 else 1)
end Go.Ab
namespace Go.Ab
def rtB(a:Nat):Nat→Nat
 |0=>0
 |n+1=>if(n+1)*(n+1)≤a then n+1 else rtB a n
def rt(a:Nat):Nat:=rtB a a
end Go.Ab
namespace Go.Ab
open Go Go.Proofs
end Go.Ab
namespace Go.Ab
open Go Go.Proofs
/-! ### A root,rounded-/
def stR(A S:Nat):Nat:=rt (A/S)*4+(if rt (A/S)*rt (A/S)*S=A then 0 else if A*4<(2*rt (A/S)+1)*(2*rt (A/S)+1)*S then 1 else if A*4=(2*rt (A/S)+1)*(2*rt (A/S)+1)*S then 2 else 3)
end Go.Ab
namespace Go.Ab
open Go Go.Proofs
def sqT(m:Nat)(e:Int):Int:=((bl m:Int)+e+1)/2
def sqL(m:Nat)(e:Int):Int:=Jg (sqT m e)
def sqA(m:Nat)(e low:Int):Nat:=stR (ovA m (e-2*low)) (2^(-(e-2*low)).toNat)
def sqV(k:Int)(s:Bool)(m e mode:Int):FlV:=
 if k=3∨k=0 then⟨k,s,m,e⟩else if s=true then⟨3,false,0,0⟩else if k=2 then⟨k,s,m,e⟩else
  ⟨flK false mode (rq false (sqA m.toNat e (sqL m.toNat e)) 4 mode) (sqL m.toNat e),false,bhV false mode (rq false (sqA m.toNat e (sqL m.toNat e)) 4 mode) (sqL m.toNat e),bhW false mode (rq false (sqA m.toNat e (sqL m.toNat e)) 4 mode) (sqL m.toNat e)⟩
def sqG(k:Int)(s:Bool)(m e mode:Int):Int:=
 if k=3∨k=0 then 0 else if s=true then 16 else if k=2 then 0 else
  biI (sqT m.toNat e) (decide (sqA m.toNat e (sqL m.toNat e) % 4=0)) (rq false (sqA m.toNat e (sqL m.toNat e)) 4 mode) (sqL m.toNat e)
end Go.Ab
namespace Go.Ab
open Go Go.Proofs
def rtE(x:ExV)(low md:Int):ExV:=⟨false,rq false (sqA x.m x.e low) 4 md,low⟩
def blL(n:Int):Bool:=decide (-3000≤n)&&decide (n≤3000)
end Go.Ab
namespace Go.Ab
open Go Go.Proofs
end Go.Ab
namespace Go.Ab
open Go Go.Proofs
def rkI:Bool→Nat
 |false=>0
 |true=>1
def rkH(x:ExV):Bool→List (Nat×Ob)
 |false=>[(3,.own 1 [.v (.slice none 0 0)])]
 |true=>[(3,.own 1 [.rf 5 0 1]),(5,.own 3 [.v (.bool x.s),.sl (lim x.m).length (qc (lim x.m)),.v (.int .i64 x.e)])]
def ex5:ExV:=⟨false,5,0⟩
end Go.Ab
namespace Go.Ab
open Go Go.Proofs
def blM(M:List DyV):Prop:=M.length≤16∧∀d∈M,d.xs.length≤200
end Go.Ab
namespace Go.Ab
open Go Go.Proofs
theorem JB(k:Int)(M:List DyV)(h1:M.length≤16)(h2:∀d∈M,d.xs.length≤200):Con Tryz.prog 25 true [.ag [.v (.int .i64 k),.sl M.length (ql DyV.cs M)]] [] (isA (.v (.bool (YM k M)))):=by
 unfold YM
 refine Con.of_w (rs:=[.tmp 2]) Tryz.func25 rfl Tryz.ntmps25 rfl ?_
 simp(disch:=omega)only[go_sem]
 by_cases c1:k<1
 ·rw[decide_eq_false (show ¬1≤k by omega),Bool.false_and,Bool.false_and]
  simp(disch:=omega)only[go_sem,c1]
  exact qy
 by_cases c2:4<k
 ·rw[decide_eq_false (show ¬k≤4 by omega),Bool.and_false,Bool.false_and]
  simp(disch:=omega)only[go_sem,c1,c2]
  exact qy
 rw[decide_eq_true (show 1≤k by omega),decide_eq_true (show k≤4 by omega),Bool.true_and,Bool.true_and]
 have hq:0≤k*k∧k*k≤16:=⟨Int.mul_nonneg (by omega) (by omega),Int.mul_le_mul (show k≤4 by omega) (show k≤4 by omega) (by omega) (by omega)⟩
 by_cases c3:(M.length:Int)=k*k
 rotate_left
 ·rw[decide_eq_false c3,Bool.false_and]
  simp(disch:=omega)only[go_sem,c1,c2,decide_eq_false c3]
  exact qy
 rw[decide_eq_true c3,Bool.true_and]
 simp(disch:=omega)only[go_sem,c1,c2,decide_eq_true c3]
 refine qh (fun i:Nat=>[(1,.pt 1 0),(2,.v (.bool false)),(3,.v (.int .i64 i))]) (fun _=>[(1,.own 0 [.v (.int .i64 k),.sl M.length (ql DyV.cs M)])]) (fun i=>i≤M.length∧∀j,j<i→(M.getD j dy0).ok=true) (fun i=>M.length-i) 0 ⟨by omega,fun j hj=>by omega⟩
  (Le.lst [(1,30000000)] _ _ rfl (by simp(disch:=omega)only[go_sem]) (by simp(disch:=omega)only[go_sem])) ?_
 rintro i ⟨hi,hp⟩
 simp(disch:=omega)only[go_sem]
 refine qe (fun h3=>?_) (fun h3=>?_)
 ·have hcut:=QU (l:=M) Yc (i:=i) (by omega) dy0
  have hmem:M.getD i dy0∈M:=by
   rw[List.getD_eq_getElem?_getD,List.getElem?_eq_getElem (by omega)];exact List.getElem_mem _
  have hx:=h2 _ hmem
  have cd:=yC (M.getD i dy0).s (M.getD i dy0).xs (M.getD i dy0).e (by omega)
  rw[show dyB (M.getD i dy0).s (M.getD i dy0).xs (M.getD i dy0).e=(M.getD i dy0).ok from rfl]at cd
  have hall:(M.getD i dy0).ok=false→M.all DyV.ok=false:=fun h=>List.all_eq_false.2 ⟨_,hmem,by rw[h];simp⟩
  have hnext:(M.getD i dy0).ok=true→∀j,j<i+1→(M.getD j dy0).ok=true:=fun h j hj=>by
   rcases(by omega:j<i∨j=i)with h'|rfl
   ·exact hp j h'
   ·exact h
  generalize M.getD i dy0=d at*
  simp(disch:=omega)only[go_sem,h3,hcut,DyV.cs]
  refine⟨by omega,by omega,qn cd ?_⟩
  simp(disch:=omega)only[go_sem]
  cases hd:d.ok
  ·rw[hall hd]
   simp(disch:=omega)only[go_sem,hd]
   exact qy
  ·simp(disch:=omega)only[go_sem,hd]
   exact qb (i+1) [] ⟨by omega,hnext hd⟩ (by show M.length-(i+1)<M.length-i;omega) rfl (by simp(disch:=omega)only[go_sem];try omega) (by simp(disch:=omega)only[go_sem])
 ·simp(disch:=omega)only[go_sem,h3]
  have hall:M.all DyV.ok=true:=List.all_eq_true.2 fun d hd=>by
   obtain⟨j,hj,rfl⟩:=List.getElem_of_mem hd
   have:=hp j (by omega)
   rw[List.getD_eq_getElem?_getD,List.getElem?_eq_getElem hj]at this
   exact this
  rw[hall]
  exact qy
theorem aPD{n:Nat}:(gId n).length=n*n:=zg
end Go.Ab
namespace Go.Ab
open Go Go.Proofs
/-! ### Matrices that were told,or not-/
def optM(n N:Nat)(T:List ExV):Prop:=(N=n∧matV n T)∨(N=0∧T=[])
def biB(M:List DyV):Prop:=M.length≤16∧∀d∈M,d.xs.length≤200
theorem matV.lens{n:Nat}{L:List ExV}(h:matV n L):biB (L.map ExV.dyv):=⟨by rw[List.length_map];exact h.l16,fun d hd=>by
 obtain⟨x,hx,rfl⟩:=List.mem_map.1 hd
 have:=(yq (h.ok x hx)).2.2.1
 show(lim x.m).length≤200
 omega⟩
theorem optM.lens{n N:Nat}{T:List ExV}(h:optM n N T):biB (T.map ExV.dyv):=by
 rcases h with⟨-,h⟩|⟨-,rfl⟩
 ·exact h.lens
 ·exact⟨by simp,by simp⟩
theorem JA(n:Nat)(L:List ExV)(h:matV n L):Con Tryz.prog 25 true [.ag [.v (.int .i64 (n)),.sl (L).length (ql ExV.cs (L))]] [] (isA (.v (.bool true))):=by
 have c:=JB n (L.map ExV.dyv) h.lens.1 h.lens.2
 rw[jY,List.length_map,show YM (n:Int) (L.map ExV.dyv)=true by
  have:=asa (n:Int) L
  rw[show L.map ExV.dyv=L.map ExV.dy from rfl,this]
  unfold aJf
  simp only[Bool.and_eq_true,decide_eq_true_eq,List.all_eq_true]
  exact⟨⟨by have:=h.n1;omega,by have:=h.n4;omega⟩,by rw[h.len,Int.natCast_mul],h.ok⟩]at c
 exact c
end Go.Ab
