/- What the proof of this claim stands on: the walks of the functions and the plain laws, part 5. -/
import Derived.Test.YtgkehjnacdccfaaGreatDoorFnExpTwiceLib4
set_option linter.unusedVariables false
set_option linter.unusedSimpArgs false
namespace Go.Ab
open Go Go.Proofs
def ExV.can(x:ExV):ExV:=⟨oS x.s x.m,oM x.m,oE x.m x.e⟩
def ExV.fit(x:ExV):Bool:=jJ x.m x.e
def SpV.can(s:SpV):SpV:=⟨s.lo.can,s.hi.can⟩
def SpV.fit(s:SpV):Bool:=s.lo.fit&&s.hi.fit
theorem XQ(x:ExV)(hx:x.bd (-400000) 400000):Con Tryz.prog 92 false [.ag [.v (.bool (x).s),.sl (lim (x).m).length (qe (lim (x).m)),.v (.int .i64 (x).e)]] [] (isA (if x.fit=true then .tu [.ag [.v (.bool (x.can).s),.sl (lim (x.can).m).length (qe (lim (x.can).m)),.v (.int .i64 (x.can).e)],.v (.bool true)]else .tu [.ag [.v (.bool (false)),.sl (lim (0)).length (qe (lim (0))),.v (.int .i64 (0))],.v (.bool false)])):=by
 obtain⟨a1,a2,a3⟩:=hx
 exact aSE x.s x.m x.e (by omega) (by omega)
set_option maxRecDepth 100000 in
theorem auL(l:List ExV)(hl:l.length≤1000)(hb:gbd (-400000) 400000 l):Con Tryz.prog 169 false [.sl l.length (qn ExV.cs l)] []
  (isA (if l.all ExV.fit=true then .tu [.sl l.length (qn ExV.cs (l.map ExV.can)),.v (.bool true)]else .tu [.sl 0 [],.v (.bool false)])):=by
 refine Con.frzA ?_
 refine Con.of_aw Tryz.func169 rfl Tryz.ntmps169 (by simp) (by simp) (by simp) (W.sound ?_)
 show @W Tryz.prog 28 ⟨_⟩ ⟨fun x σ=>@q8 _ _ _ ⟨_⟩ _ ⟨_⟩ x σ⟩ _ _
 simp(disch:=omega)only[go_sem]
 refine qi (fun i:Nat=>[(2,.v (.slice none 0 0)),(3,.v (.bool false)),(4,.rf 1 0 i),(9,.sl l.length (qn ExV.cs l)),(10,.v (.int .i64 l.length)),(11,.v (.int .i64 i))])
  (fun i=>[(1,.own 3 (qn ExV.cs (mpT l ExV.can i)))]) (fun i=>i≤l.length∧∀x∈l.take i,x.fit=true) (fun i=>l.length-i) 0 ⟨by omega,by simp⟩
  ((Le.ghost 4 1 3 (by simp(disch:=omega)only[go_sem]) (by simp(disch:=omega)only[go_sem])).trans (Le.lst [] _ _ rfl (by simp(disch:=omega)only[go_sem]) (by simp(disch:=omega)only[go_sem,yA,Zo]))) ?_
 rintro i ⟨hi,hf⟩
 simp(disch:=omega)only[go_sem]
 refine qg (fun h1=>?_) (fun h1=>?_)
 ·have hi2:i<l.length:=by omega
  have hci:=jl hi2
  have hcut:=zT (jb (F:=ExV.can) hi)
  have hml:=jb (F:=ExV.can) hi
  have hs:=yB (F:=ExV.can) ex0 hi2
  have hx:=zj hb hi2
  have hmem:l.getD i ex0∈l:=by rw[List.getD_eq_getElem?_getD,List.getElem?_eq_getElem hi2];exact List.getElem_mem _
  have htk:l.take (i+1)=l.take i++[l.getD i ex0]:=by
   rw[List.take_add_one,List.getElem?_eq_getElem hi2,List.getD_eq_getElem?_getD,List.getElem?_eq_getElem hi2];rfl
  generalize l.getD i ex0=x at*
  have cd:=XQ x hx
  simp(disch:=omega)only[go_sem,h1,hci]
  refine⟨by omega,by omega,?_⟩
  cases hft:x.fit
  ·have hall:l.all ExV.fit=false:=by rw[List.all_eq_false];exact⟨x,hmem,by rw[hft];simp⟩
   rw[hft,if_neg (by simp)]at cd
   rw[hall,if_neg (by simp)]
   refine qa (cd) ?_
   simp(disch:=omega)only[go_sem]
   exact qp
  ·rw[hft,if_pos rfl]at cd
   refine qa (cd) ?_
   simp(disch:=omega)only[go_sem]
   simp(disch:=omega)only[go_sem,hcut,QZ]
   refine⟨⟨by rw[hml];exact Nat.le_refl _,by omega⟩,qb (i+1) [(1,270000000)] ⟨by show i+1≤_;omega,fun y hy=>?_⟩ (by show l.length-(i+1)<l.length-i;omega) rfl (by simp(disch:=omega)only[go_sem];try omega) (by simp(disch:=omega)only[go_sem,hs])⟩
   rw[htk]at hy
   rcases List.mem_append.1 hy with h|h
   ·exact hf y h
   ·rw[List.mem_singleton.1 h];exact hft
 ·simp(disch:=omega)only[go_sem,h1]
  obtain rfl:i=l.length:=by omega
  rw[List.take_length]at hf
  have hall:l.all ExV.fit=true:=List.all_eq_true.2 hf
  rw[hall,if_pos rfl]
  refine qh [(0,1)] [.own 3 (qn ExV.cs (mpT l ExV.can l.length))] [] [.rf 0 0 l.length,.v (.bool true)] rfl (by simp(disch:=omega)only[go_sem]) (by simp(disch:=omega)only[go_sem]) (by simp) (by simp) ?_
  show qJ _ 6 _=_
  simp(disch:=omega)only[go_sem,Y4,zl,Qv,zT (l:=l.map ExV.can) (k:=l.length) (List.length_map ..)]
theorem auy(n:Nat)(l:List ExV)(hl:l.length≤1000)(hb:gbd (-400000) 400000 l):Con Tryz.prog 77 false [.ag [.v (.int .i64 (n)),.sl (l).length (qn ExV.cs (l))]] []
  (isA (if l.all ExV.fit=true then .tu [.ag [.v (.int .i64 n),.sl l.length (qn ExV.cs (l.map ExV.can))],.v (.bool true)]else .tu [.ag [.v (.int .i64 0),.sl 0 []],.v (.bool false)])):=by
 refine Con.frzA ?_
 have cd:=auL l hl hb
 generalize l.map ExV.can=L at*
 cases hf:l.all ExV.fit
 ·rw[hf,if_neg (by simp)]at cd
  rw[if_neg (by simp)]
  refine Con.of_w (rs:=[.cell 2 25,.tmp 3]) Tryz.func77 rfl Tryz.ntmps77 rfl ?_
  simp(disch:=omega)only[go_sem]
  refine qa (cd) ?_
  simp(disch:=omega)only[go_sem]
  exact qp
 ·rw[hf,if_pos rfl]at cd
  rw[if_pos rfl]
  refine Con.of_w (rs:=[.cell 2 25,.tmp 3]) Tryz.func77 rfl Tryz.ntmps77 rfl ?_
  simp(disch:=omega)only[go_sem]
  refine qa (cd) ?_
  simp(disch:=omega)only[go_sem]
  exact qp
theorem Ye(n:Nat)(l:List ExV)(x:ExV)(hl:l.length≤1000)(hb:gbd (-400000) 400000 l)(hx:x.bd (-400000) 400000):Con Tryz.prog 104 false [.ag [.v (.int .i64 (n)),.sl (l).length (qn ExV.cs (l))],.ag [.v (.bool (x).s),.sl (lim (x).m).length (qe (lim (x).m)),.v (.int .i64 (x).e)]] []
  (isA (if(l.all ExV.fit&&x.fit)=true then .tu [.ag [.v (.int .i64 n),.sl l.length (qn ExV.cs (l.map ExV.can))],.ag [.v (.bool (x.can).s),.sl (lim (x.can).m).length (qe (lim (x.can).m)),.v (.int .i64 (x.can).e)],.v (.bool true)]else .tu [.ag [.v (.int .i64 0),.sl 0 []],.ag [.v (.bool (false)),.sl (lim (0)).length (qe (lim (0))),.v (.int .i64 (0))],.v (.bool false)])):=by
 refine Con.frzA ?_
 have cd:=auy n l hl hb
 have cx:=XQ x hx
 generalize l.map ExV.can=L at*
 cases hf:l.all ExV.fit<;>cases hg:x.fit
 ·rw[hf,if_neg (by simp)]at cd
  rw[hg,if_neg (by simp)]at cx
  rw[if_neg (by simp)]
  refine Con.of_w (rs:=[.cell 4 25,.cell 5 42,.tmp 6]) Tryz.func104 rfl Tryz.ntmps104 rfl ?_
  simp(disch:=omega)only[go_sem]
  refine qa (cd) ?_
  simp(disch:=omega)only[go_sem]
  refine qa (cx) ?_
  simp(disch:=omega)only[go_sem]
  exact qp (hp:=by simp(disch:=omega)only[go_sem,qs,List.length_nil,jH])
 ·rw[hf,if_neg (by simp)]at cd
  rw[hg,if_pos rfl]at cx
  rw[if_neg (by simp)]
  refine Con.of_w (rs:=[.cell 4 25,.cell 5 42,.tmp 6]) Tryz.func104 rfl Tryz.ntmps104 rfl ?_
  simp(disch:=omega)only[go_sem]
  refine qa (cd) ?_
  simp(disch:=omega)only[go_sem]
  refine qa (cx) ?_
  simp(disch:=omega)only[go_sem]
  exact qp (hp:=by simp(disch:=omega)only[go_sem,qs,List.length_nil,jH])
 ·rw[hf,if_pos rfl]at cd
  rw[hg,if_neg (by simp)]at cx
  rw[if_neg (by simp)]
  refine Con.of_w (rs:=[.cell 4 25,.cell 5 42,.tmp 6]) Tryz.func104 rfl Tryz.ntmps104 rfl ?_
  simp(disch:=omega)only[go_sem]
  refine qa (cd) ?_
  simp(disch:=omega)only[go_sem]
  refine qa (cx) ?_
  simp(disch:=omega)only[go_sem]
  exact qp (hp:=by simp(disch:=omega)only[go_sem,qs,List.length_nil,jH])
 ·rw[hf,if_pos rfl]at cd
  rw[hg,if_pos rfl]at cx
  rw[if_pos (by rfl)]
  refine Con.of_w (rs:=[.cell 4 25,.cell 5 42,.tmp 6]) Tryz.func104 rfl Tryz.ntmps104 rfl ?_
  simp(disch:=omega)only[go_sem]
  refine qa (cd) ?_
  simp(disch:=omega)only[go_sem]
  refine qa (cx) ?_
  simp(disch:=omega)only[go_sem]
  refine qv rfl [⟨0,[],[]⟩,⟨1,[0],[]⟩,⟨2,[1],[]⟩,⟨3,[],[]⟩,⟨4,[],[]⟩] (by kernel_rfl) ?_
  simp(disch:=omega)only[go_sem]
  exact qp
theorem aup(s:SpV)(hs:s.bd (-400000) 400000):Con Tryz.prog 140 false [.ag [.v (.bool (s).lo.s),.sl (lim (s).lo.m).length (qe (lim (s).lo.m)),.v (.int .i64 (s).lo.e),.v (.bool (s).hi.s),.sl (lim (s).hi.m).length (qe (lim (s).hi.m)),.v (.int .i64 (s).hi.e)]] []
  (isA (if s.fit=true then .tu [.ag [.v (.bool (s.can).lo.s),.sl (lim (s.can).lo.m).length (qe (lim (s.can).lo.m)),.v (.int .i64 (s.can).lo.e),.v (.bool (s.can).hi.s),.sl (lim (s.can).hi.m).length (qe (lim (s.can).hi.m)),.v (.int .i64 (s.can).hi.e)],.v (.bool true)]else .tu [.ag [.v (.bool (sp0).lo.s),.sl (lim (sp0).lo.m).length (qe (lim (sp0).lo.m)),.v (.int .i64 (sp0).lo.e),.v (.bool (sp0).hi.s),.sl (lim (sp0).hi.m).length (qe (lim (sp0).hi.m)),.v (.int .i64 (sp0).hi.e)],.v (.bool false)])):=by
 refine Con.frzA ?_
 have c1:=XQ s.lo hs.1
 have c2:=XQ s.hi hs.2
 unfold SpV.fit
 cases h1:s.lo.fit<;>cases h2:s.hi.fit
 ·rw[h1,if_neg (by simp)]at c1
  rw[h2,if_neg (by simp)]at c2
  rw[if_neg (by simp)]
  refine Con.of_w (rs:=[.cell 2 90,.tmp 3]) Tryz.func140 rfl Tryz.ntmps140 rfl ?_
  simp(disch:=omega)only[go_sem]
  refine qa (c1) ?_
  simp(disch:=omega)only[go_sem]
  refine qa (c2) ?_
  simp(disch:=omega)only[go_sem]
  exact qp (hp:=by simp(disch:=omega)only[go_sem,sp0,ex0,qs,List.length_nil,jH])
 ·rw[h1,if_neg (by simp)]at c1
  rw[h2,if_pos rfl]at c2
  rw[if_neg (by simp)]
  refine Con.of_w (rs:=[.cell 2 90,.tmp 3]) Tryz.func140 rfl Tryz.ntmps140 rfl ?_
  simp(disch:=omega)only[go_sem]
  refine qa (c1) ?_
  simp(disch:=omega)only[go_sem]
  refine qa (c2) ?_
  simp(disch:=omega)only[go_sem]
  exact qp (hp:=by simp(disch:=omega)only[go_sem,sp0,ex0,qs,List.length_nil,jH])
 ·rw[h1,if_pos rfl]at c1
  rw[h2,if_neg (by simp)]at c2
  rw[if_neg (by simp)]
  refine Con.of_w (rs:=[.cell 2 90,.tmp 3]) Tryz.func140 rfl Tryz.ntmps140 rfl ?_
  simp(disch:=omega)only[go_sem]
  refine qa (c1) ?_
  simp(disch:=omega)only[go_sem]
  refine qa (c2) ?_
  simp(disch:=omega)only[go_sem]
  exact qp (hp:=by simp(disch:=omega)only[go_sem,sp0,ex0,qs,List.length_nil,jH])
 ·rw[h1,if_pos rfl]at c1
  rw[h2,if_pos rfl]at c2
  rw[if_pos (by rfl)]
  refine Con.of_w (rs:=[.cell 2 90,.tmp 3]) Tryz.func140 rfl Tryz.ntmps140 rfl ?_
  simp(disch:=omega)only[go_sem]
  refine qa (c1) ?_
  simp(disch:=omega)only[go_sem]
  refine qa (c2) ?_
  simp(disch:=omega)only[go_sem]
  exact qp (hp:=by simp(disch:=omega)only[go_sem,SpV.can])
set_option maxRecDepth 100000 in
theorem JW(n:Nat)(l:List SpV)(hl:l.length≤1000)(hb:sbd (-400000) 400000 l):Con Tryz.prog 72 false [.ag [.v (.int .i64 (n)),.sl (l).length (qn SpV.cs (l))]] []
  (isA (if l.all SpV.fit=true then .tu [.ag [.v (.int .i64 n),.sl l.length (qn SpV.cs (l.map SpV.can))],.v (.bool true)]else .tu [.ag [.v (.int .i64 0),.sl 0 []],.v (.bool false)])):=by
 refine Con.frzA ?_
 refine Con.of_aw Tryz.func72 rfl Tryz.ntmps72 (by simp) (by simp) (by simp) (W.sound ?_)
 show @W Tryz.prog 35 ⟨_⟩ ⟨fun x σ=>@q8 _ _ _ ⟨_⟩ _ ⟨_⟩ x σ⟩ _ _
 simp(disch:=omega)only[go_sem]
 refine qi (fun i:Nat=>[(2,.pt 2 0),(3,.v (.bool false)),(4,.pt 0 0),(13,.sl l.length (qn SpV.cs l)),(14,.v (.int .i64 l.length)),(15,.v (.int .i64 i))])
  (fun i=>[(0,.own 0 [.v (.int .i64 n),.rf 1 0 i]),(1,.own 6 (qn SpV.cs (mpT l SpV.can i))),(2,.own 0 [.v (.int .i64 0),.v (.slice none 0 0)])]) (fun i=>i≤l.length∧∀x∈l.take i,x.fit=true) (fun i=>l.length-i) 0 ⟨by omega,by simp⟩
  ((Le.ghostC 60000000 1 1 6 (zo:=0) (cs:=[.v (.int .i64 n),.v (.slice none 0 0)]) (by simp(disch:=omega)only[go_sem]) rfl (by simp(disch:=omega)only[go_sem])).trans (Le.lst [(0,60000000),(2,40000000)] _ _ rfl (by simp(disch:=omega)only[go_sem]) (by simp(disch:=omega)only[go_sem,yA,Q9,List.set_cons_succ,List.set_cons_zero]))) ?_
 rintro i ⟨hi,hf⟩
 simp(disch:=omega)only[go_sem]
 refine qg (fun h1=>?_) (fun h1=>?_)
 ·have hi2:i<l.length:=by omega
  have hci:=j8 hi2
  have hcut:=zJ (jb (F:=SpV.can) hi)
  have hml:=jb (F:=SpV.can) hi
  have hs:=yB (F:=SpV.can) sp0 hi2
  have hx:=jB hb hi2
  have hmem:l.getD i sp0∈l:=by rw[List.getD_eq_getElem?_getD,List.getElem?_eq_getElem hi2];exact List.getElem_mem _
  have htk:l.take (i+1)=l.take i++[l.getD i sp0]:=by
   rw[List.take_add_one,List.getElem?_eq_getElem hi2,List.getD_eq_getElem?_getD,List.getElem?_eq_getElem hi2];rfl
  generalize l.getD i sp0=x at*
  have cd:=aup x hx
  simp(disch:=omega)only[go_sem,h1,hci]
  refine⟨by omega,by omega,?_⟩
  cases hft:x.fit
  ·have hall:l.all SpV.fit=false:=by rw[List.all_eq_false];exact⟨x,hmem,by rw[hft];simp⟩
   rw[hft,if_neg (by simp)]at cd
   rw[hall,if_neg (by simp)]
   refine qa (cd) ?_
   simp(disch:=omega)only[go_sem]
   exact qp
  ·rw[hft,if_pos rfl]at cd
   refine qa (cd) ?_
   simp(disch:=omega)only[go_sem]
   simp(disch:=omega)only[go_sem,hcut,y7]
   refine⟨⟨by rw[hml];exact Nat.le_refl _,by omega⟩,qb (i+1) [(1,330000000)] ⟨by show i+1≤_;omega,fun y hy=>?_⟩ (by show l.length-(i+1)<l.length-i;omega) rfl (by simp(disch:=omega)only[go_sem];try omega) (by simp(disch:=omega)only[go_sem,hs])⟩
   rw[htk]at hy
   rcases List.mem_append.1 hy with h|h
   ·exact hf y h
   ·rw[List.mem_singleton.1 h];exact hft
 ·simp(disch:=omega)only[go_sem,h1]
  obtain rfl:i=l.length:=by omega
  rw[List.take_length]at hf
  have hall:l.all SpV.fit=true:=List.all_eq_true.2 hf
  rw[hall,if_pos rfl]
  refine qh [(0,1)] [.own 6 (qn SpV.cs (mpT l SpV.can l.length))] [] [.ag [.v (.int .i64 n),.rf 0 0 l.length],.v (.bool true)] rfl (by simp(disch:=omega)only[go_sem]) (by simp(disch:=omega)only[go_sem]) (by simp) (by simp) ?_
  show qJ _ 6 _=_
  simp(disch:=omega)only[go_sem,Y4,zl,Qv,zJ (l:=l.map SpV.can) (k:=l.length) (List.length_map ..)]
end Go.Ab
namespace Go.Ab
open Go Go.Proofs
def fct:Nat→Nat
 |0=>1
 |n+1=>(n+1)*fct n
theorem atZ:∀n,n≤500→bl (fct n)≤9*n+1
 |0,_=>by decide
 |n+1,h=>by
  have h1:=atZ n (by omega)
  have h2:=XY (n+1) (fct n)
  have h3:bl (n+1)≤9:=zf.2 (by omega)
  show bl ((n+1)*fct n)≤_
  omega
theorem atY:∀n,0<fct n
 |0=>by decide
 |n+1=>Nat.mul_pos (by omega) (atY n)
theorem aIS(n:Nat)(hn:n≤402):Con Tryz.prog 249 false [.v (.int .i64 n)] [] (isA (.sl (lim (fct n)).length (qe (lim (fct n))))):=by
 refine Con.frzA ?_
 refine Con.of_w (rs:=[.tmp 2]) Tryz.func249 rfl Tryz.ntmps249 rfl ?_
 simp(disch:=omega)only[go_sem]
 refine qa (zF 1 (by omega)) ?_
 simp(disch:=omega)only[go_sem]
 by_cases h1:n≤1
 ·have e1:fct n=1:=by
   rcases(by omega:n=0∨n=1)with rfl|rfl<;>rfl
  rw[e1]
  refine qi (fun _:Nat=>[(0,.v (.int .i64 n)),(2,.v (.slice none 0 0)),(3,.sl (lim (1)).length (qe (lim (1)))),(4,.v (.int .i64 2))]) (fun _=>[]) (fun _=>True) (fun _=>0) 0 trivial (Le.lst [] _ _ rfl (by simp(disch:=omega)only[go_sem]) (by simp(disch:=omega)only[go_sem])) ?_
  intro _ _
  simp(disch:=omega)only[go_sem]
  have q:decide ((2:Int)≤(n:Int))=false:=decide_eq_false (by omega)
  simp(disch:=omega)only[go_sem,q]
  exact qp
 ·refine qi (fun k:Nat=>[(0,.v (.int .i64 n)),(2,.v (.slice none 0 0)),(3,.sl (lim (fct k)).length (qe (lim (fct k)))),(4,.v (.int .i64 ((k:Int)+1)))]) (fun _=>[]) (fun k=>1≤k∧k≤n) (fun k=>n-k) 1 (by omega) (Le.lst [] _ _ rfl (by simp(disch:=omega)only[go_sem,show fct 1=1 from rfl,show((1:Nat):Int)+1=2 from rfl];try rfl) (by simp(disch:=omega)only[go_sem])) ?_
  rintro k ⟨hk1,hk⟩
  simp(disch:=omega)only[go_sem]
  refine qg (fun h2=>?_) (fun h2=>?_)
  ·simp(disch:=omega)only[go_sem,h2]
   have e1:(k:Int)+1=((k+1:Nat):Int):=by omega
   have l1:=qI (atZ k (by omega))
   have l2:=qI (m:=k+1) (B:=9) (zf.2 (by omega))
   have cs:=zF (k+1) (by omega)
   rw[←e1]at cs
   refine qa (cs) ?_
   simp(disch:=omega)only[go_sem]
   refine qa (YG (fct k) (k+1) (by omega) (by omega)) ?_
   simp(disch:=omega)only[go_sem]
   have e2:fct k*(k+1)=fct (k+1):=Nat.mul_comm _ _
   exact qb (k+1) [] ⟨by omega,by omega⟩ (by show n-(k+1)<n-k;omega) rfl (by simp(disch:=omega)only[go_sem,e2];try omega) (by simp(disch:=omega)only[go_sem])
  ·simp(disch:=omega)only[go_sem,h2]
   obtain rfl:n=k:=by omega
   exact qp
def tmS(W:Nat):Nat→Nat→Nat
 |_,0=>0
 |k,f+1=>if fct (k+1)*2^k<2^W then tmS W (k+1) f else k
def tmF(W:Nat):Nat:=tmS W 1 402
theorem JR(B:Nat)(hW:B≤400):Con Tryz.prog 162 true [.v (.int .i64 (-(B:Int)))] [] (isA (.v (.int .i64 (tmF B)))):=by
 refine Con.of_w (rs:=[.tmp 2]) Tryz.func162 rfl Tryz.ntmps162 rfl ?_
 simp(disch:=omega)only[go_sem]
 refine qi (fun k:Nat=>[(0,.v (.int .i64 (-(B:Int)))),(2,.v (.int .i64 0)),(3,.v (.int .i64 k))]) (fun _=>[]) (fun k=>1≤k∧k≤401∧tmS B k (403-k)=tmF B) (fun k=>402-k) 1 ⟨by omega,by omega,rfl⟩ (Le.lst [] _ _ rfl (by simp(disch:=omega)only[go_sem]) (by simp(disch:=omega)only[go_sem])) ?_
 rintro k ⟨hk1,hk2,ht⟩
 have e1:(k:Int)+1=((k+1:Nat):Int):=by omega
 have e2:0-(-(B:Int))=(B:Int):=by omega
 have cf:=aIS (k+1) (by omega)
 rw[←e1]at cf
 have b1:=atZ (k+1) (by omega)
 have l1:=qI b1
 have b2:=Yj (fct (k+1)) k
 have l2:=qI (m:=fct (k+1)*2^k) (B:=5000) (by omega)
 have b3:=Yj 1 B
 have b4:bl 1≤1:=zf.2 (by decide)
 have l3:=qI (m:=1*2^B) (B:=500) (by omega)
 have l4:=qI b4
 have cu:=jf 1 B (by omega) (by omega)
 rw[←e2]at cu
 have cc:=jq (fct (k+1)*2^k) (1*2^B) (by omega) (by omega)
 have hstep:tmS B k (403-k)=if fct (k+1)*2^k<2^B then tmS B (k+1) (403-(k+1))else k:=by
  rw[show 403-k=(403-(k+1))+1 by omega];rfl
 have hbig:fct (k+1)*2^k<2^B→k<B:=fun h=>by
  rcases Nat.lt_or_ge k B with h'|h'
  ·exact h'
  ·have g1:2^B≤2^k:=Nat.pow_le_pow_right (by omega) h'
   have g2:1*2^k≤fct (k+1)*2^k:=Nat.mul_le_mul_right _ (atY _)
   omega
 have hcl:=(yH ((fct (k+1)*2^k:Nat):Int) ((1*2^B:Nat):Int)).2.1
 generalize zD ((fct (k+1)*2^k:Nat):Int) ((1*2^B:Nat):Int)=C at*
 generalize fct (k+1)=FF at*
 simp(disch:=omega)only[go_sem]
 refine qa (cf) ?_
 simp(disch:=omega)only[go_sem]
 refine qa (jf FF k (by omega) (by omega)) ?_
 simp(disch:=omega)only[go_sem]
 refine qa (zF 1 (by omega)) ?_
 simp(disch:=omega)only[go_sem]
 refine qa (cu) ?_
 simp(disch:=omega)only[go_sem]
 refine ql (cc) ?_
 simp(disch:=omega)only[go_sem]
 refine qg (fun h1=>?_) (fun h1=>?_)
 ·simp(disch:=omega)only[go_sem,h1]
  have hlt:FF*2^k<2^B:=by have:=hcl.1 h1;omega
  have:=hbig hlt
  rw[if_pos hlt,ht]at hstep
  exact qb (k+1) [] ⟨by omega,by omega,hstep.symm⟩ (by show 402-(k+1)<402-k;omega) rfl (by simp(disch:=omega)only[go_sem];try omega) (by simp(disch:=omega)only[go_sem])
 ·simp(disch:=omega)only[go_sem,h1]
  have hlt:¬FF*2^k<2^B:=fun h=>h1 (hcl.2 (by omega))
  rw[if_neg hlt,ht]at hstep
  rw[hstep]
  exact qB
end Go.Ab
namespace Go.Ab
open Go
section
variable {P:Program}
theorem Z4{L:Nat→Option Blk→Prop}{w0:World}{R0:Nat→Prop}{N:Nat}{ops:Array Oper}{K:St→Prop}{Q':Exit→Act→World→Prop}{rest:List Nat}(hQ:∀σ a w,In L w0 R0 N σ a w→K σ→wpOps P ops Q' rest a w):
  ∀(r:List Oper) (k:Nat),(∀j,j<r.length→ops[k+j]? =r[j]?)→∀{e h a w},In L w0 R0 N ⟨e,h⟩ a w→ChF P N ops.toList K r e h→wpOps P ops Q' (List.range' k r.length++rest) a w
 | [],k,hk,e,h,a,w,hi,hs=>by
  simp only[List.length_nil,List.range'_zero,List.nil_append]
  exact hQ _ _ _ hi hs
 |⟨d,op,ty,pos,af,g⟩::r,k,hk,e,h,a,w,hi,hs=>by
  have ho:ops[k]? =some ⟨d,op,ty,pos,af,g⟩:=by
   have:=hk 0 (by simp)
   simpa using this
  have hr:∀j,j<r.length→ops[k+1+j]? =r[j]? :=fun j hj=>by
   have:=hk (j+1) (by simpa using hj)
   rw[show k+1+j=k+(j+1) by omega,this];simp
  have hd:dOk N d:=by cases g<;>exact hs.1
  simp only[List.length_cons,List.range'_succ,List.cons_append,wpOps,ho]
  have run:@Op1 P ⟨d⟩ ⟨op⟩ ⟨fun v hp=>ChF P N ops.toList K r (Qj e d v) hp⟩ e h→Oper.wp P ⟨d,op,ty,pos,af,g⟩ a w (wpOps P ops Q' (List.range' (k+1) r.length++rest)) Q':=fun hs=>by
   obtain⟨R,ι,hR,hinv⟩:=hi.inv
   refine ag9 hinv (Op1.sound hs ty pos af g) fun x w' R' ι' av hp' hR' hK hx hm hi'=>?_
   exact Z4 hQ r (k+1) hr (hi.put (o:=⟨d,op,ty,pos,af,g⟩) hd hR hR' hx hm hi') hK
  have skip:ChF P N ops.toList K r (Qj e d (.v (.tuple ⟨[]⟩))) h→wpOps P ops Q' (List.range' (k+1) r.length++rest) (a.put d undef) w:=fun hs=>by
   obtain⟨R,ι,hR,hinv⟩:=hi.inv
   exact Z4 hQ r (k+1) hr (hi.put (o:=⟨d,op,ty,pos,af,g⟩) hd hR (fun _ h=>.inl h) (.fr _ _ (.v _)) (by simp[AV.All]) hinv) hs
  cases g with
  |none=>
   rw[if_pos (by simp[Region.wanted])]
   exact .inl (run hs.2)
  |some p=>
   obtain⟨j,want⟩:=p
   have h2:=hs.2
   unfold abF at h2
   dsimp only at h2
   split at h2
   ·rename_i d' hd'
    have key:∀v c,e d'=.v v→(match v with| .bool b=>some b|_=>none)=c→yielded ops a.tmps j=c:=by
     intro v c hv hc
     obtain⟨R,ι,hR,hinv⟩:=hi.inv
     have:=hinv.env d'
     change Rep _ _ _ _ (e d')at this
     rw[hv]at this
     have:=this.v_inv
     unfold yielded
     rw[Array.getElem?_toList]at hd'
     rw[hd']
     rw[Array.getD_eq_getD_getElem?]at this
     cases ee:a.tmps[d']? with
     |none=>
      rw[ee]at this
      subst hc
      have:v=undef:=this.symm
      subst this;simp[ee,undef]
     |some y=>rw[ee]at this;simp at this;subst this;subst hc;simp only[Option.bind_some,ee];cases y<;>rfl
    unfold J5 at h2
    split at h2
    ·rename_i b hb
     have hy:=key _ _ hb rfl
     have hw:Region.wanted ⟨d,op,ty,pos,af,some (j,want)⟩ (yielded ops a.tmps)=(b==want):=by
      simp only[Region.wanted,hy]
      cases b<;>cases want<;>rfl
     rw[hw]
     cases hbw:b==want with
     |true=>rw[if_pos rfl];exact .inl (run (h2.1 hbw))
     |false=>rw[if_neg (by simp)];exact skip (h2.2 hbw)
    ·rename_i hb
     have hy:=key _ _ hb rfl
     have hw:Region.wanted ⟨d,op,ty,pos,af,some (j,want)⟩ (yielded ops a.tmps)=false:=by
      simp only[Region.wanted,hy]
      cases want<;>rfl
     rw[hw,if_neg (by simp)]
     exact skip (h2.2 rfl)
    ·exact h2.elim
   ·exact h2.elim
theorem aSu{N:Nat}{l:List Oper}{Q:St→Prop}{e:Nat→AV}{h:Nat→Ob}{E:List (Nat×AV)}{H:List (Nat×Ob)}(hl:Le ⟨e,h⟩ ⟨ofL .un E,ofH H⟩)(hd:@amE P N ⟨l⟩ ⟨Q⟩ ⟨ofL .un E,ofH H⟩):@amE P N ⟨l⟩ ⟨Q⟩ ⟨e,h⟩:=
 fun id=>AW.le hl (hd id)
theorem AW.regSplit{N:Nat}{Q:Exit→St→Prop}{e:Nat→AV}{h:Nat→Ob}{id:Nat}{l:List Oper}{y:Code}(k:Nat){pre suf:List Oper}(hp:l.take k=pre)(hs:l.drop k=suf){E:List (Nat×AV)}{H:List (Nat×Ob)}
  (h1:@Ch P N ⟨l⟩ ⟨pre⟩ ⟨fun σ'=>Le σ' ⟨ofL .un E,ofH H⟩⟩ e h) (h2:@Ch P N ⟨l⟩ ⟨suf⟩ ⟨fun σ=>@W P N ⟨y⟩ ⟨Q⟩ σ.env σ.hp⟩ (ofL .un E) (ofH H)):AW P N (.seq (.region id ⟨l⟩ false) y) Q ⟨e,h⟩:=by
 refine AW.seq fun L w0 R0 a w hi=>wp_region ?_
 have hl:l=pre++suf:=by rw[←hp,←hs,List.take_append_drop]
 have hr:List.range (⟨l⟩:Array Oper).size=List.range' 0 pre.length++(List.range' pre.length suf.length++[]):=by
  have hsz:(⟨l⟩:Array Oper).size=pre.length+suf.length:=by show l.length=_;rw[hl,List.length_append]
  rw[hsz,List.append_nil,List.range_eq_range',List.range'_append_1.symm,Nat.zero_add]
 rw[hr]
 refine Z4 (K:=fun σ'=>Le σ' ⟨ofL .un E,ofH H⟩) (fun σ a w hi2 hle=>?_) pre 0 (fun j hj=>?_) hi h1
 ·refine Z4 (K:=fun σ=>@W P N ⟨y⟩ ⟨Q⟩ σ.env σ.hp) (fun σ a w hi3 hq=>?_) suf pre.length (fun j hj=>?_) (hle L w0 R0 N a w hi2) h2
  ·exact⟨σ,hi3,W.sound hq⟩
  ·rw[List.getElem?_toArray,hl,List.getElem?_append_right (by omega),Nat.add_sub_cancel_left]
 ·rw[List.getElem?_toArray,hl,Nat.zero_add,List.getElem?_append_left hj]
end
end Go.Ab
namespace Go.Ab
open Go Go.Proofs
instance (lo hi:Int)(x:ExV):Decidable (x.bd lo hi):=inferInstanceAs (Decidable ((x.m=0→x.s=false)∧lo≤x.e∧(bl x.m:Int)+x.e≤hi))
instance (lo hi:Int)(x:SpV):Decidable (x.bd lo hi):=inferInstanceAs (Decidable (x.lo.bd lo hi∧x.hi.bd lo hi))
instance (lo hi:Int)(l:List ExV):Decidable (gbd lo hi l):=inferInstanceAs (Decidable (∀x∈l,x.bd lo hi))
instance (lo hi:Int)(l:List SpV):Decidable (sbd lo hi l):=inferInstanceAs (Decidable (∀x∈l,x.bd lo hi))
def hB:List SpV:=(qF 1 [ex0] (ex1.shift 0)).map ptS
def hSt:Nat→List SpV×List SpV
 |0=>((gId 1).map ptS,(gId 1).map ptS)
 |i+1=>(yW (hSt i).1 ((qC 1 (hSt i).2 hB).map fun s=>s.divd (i+1) (-22)),(qC 1 (hSt i).2 hB).map fun s=>s.divd (i+1) (-22))
def aTF:List SpV:=(hSt 7).1.map fun s=>s.fat (ex1.shift (-22))
def aKP:List SpV:=aTF.map fun s=>s.out (-14)
theorem JD:∀i,(hSt i).1.length=1∧(hSt i).2.length=1
 |0=>by decide+kernel
 |i+1=>⟨JH.trans (JD i).1,by show(List.map _ _).length=1;rw[List.length_map];exact zI⟩
theorem atF:∀i,i<8→sbd (-100000) 100000 (hSt i).1∧sbd (-100000) 100000 (hSt i).2∧sbd (-100000) 100000 (qC 1 (hSt i).2 hB):=by decide+kernel
theorem bml:tmF 22=7:=by decide+kernel
set_option maxRecDepth 100000 in
theorem auJ(n:Nat)(h1:n=1):Con Tryz.prog 71 false [.ag [.v (.int .i64 (n)),.sl ([ex0]).length (qn ExV.cs ([ex0]))],.v (.int .i64 (-10))] [] (isA (.ag [.v (.int .i64 (n)),.sl (aKP).length (qn SpV.cs (aKP))])):=by
 refine Con.frzA ?_
 have hn:n≤4:=by omega
 have cn:=Qd n [ex0] hn (by rw[h1];rfl) (by decide+kernel)
 rw[show qS n [ex0] n=ex0 by rw[h1];decide+kernel]at cn
 have cz:Con Tryz.prog 158 true [.ag [.v (.bool (ex0).s),.sl (lim (ex0).m).length (qe (lim (ex0).m)),.v (.int .i64 (ex0).e)]] [] (isA (.v (.bool true))):=Qe ex0.s ex0.m ex0.e
 have cs:=jm ex1 0 (by decide) (by decide)
 have cg:=yG n [ex0] (ex1.shift 0) hn (by rw[h1];rfl) (by decide+kernel) (by decide+kernel)
 have cf:=jo n (qF n [ex0] (ex1.shift 0)) (by show(gl _ _ _).length≤_;rw[z7,h1];decide)
 rw[show(qF n [ex0] (ex1.shift 0)).map ptS=hB by rw[h1];rfl]at cf
 have ci:=ags n hn
 have cfi:=jo n (gId n) (by show(gl _ _ _).length≤_;rw[z7,h1];decide)
 rw[show(gId n).map ptS=(hSt 0).1 by rw[h1];rfl]at cfi
 have ct:Con Tryz.prog 162 true [.v (.int .i64 (-22))] [] (isA (.v (.int .i64 7))):=by have:=JR 22 (by omega);rw[bml]at this;exact this
 have hw:(-10-2*0-12:Int)= -22:=rfl
 have cs2:=jm ex1 (-22) (by decide) (by decide)
 have cft:=XN n (hSt 7).1 (ex1.shift (-22)) (by rw[(JD 7).1];decide) (qE (atF 7 (by decide)).1 (by omega) (by omega)) (by decide+kernel)
 change Con _ _ _ _ _ (isA (.ag [.v (.int .i64 (n)),.sl (aTF).length (qn SpV.cs (aTF))]))at cft
 have cot:=Q2 n aTF (-14) (by show(List.map _ _).length≤_;rw[List.length_map,(JD 7).1];decide) (by decide+kernel) (by omega)
 change Con _ _ _ _ _ (isA (.ag [.v (.int .i64 (n)),.sl (aKP).length (qn SpV.cs (aKP))]))at cot
 generalize qF n [ex0] (ex1.shift 0)=G at*
 generalize gId n=I at*
 refine Con.of_w (rs:=[.cell 4 107]) Tryz.func71 rfl Tryz.ntmps71 rfl ?_
 simp(disch:=omega)only[go_sem]
 refine qa (cn) ?_
 simp(disch:=omega)only[go_sem]
 refine ql (cz) ?_
 simp(disch:=omega)only[go_sem]
 rw[hw]
 refine qv rfl [⟨0,[],[]⟩,⟨2,[0],[]⟩,⟨3,[0],[]⟩,⟨7,[0],[]⟩,⟨1,[0],[100000000]⟩,⟨4,[0],[100000000]⟩,⟨5,[],[100000000]⟩,⟨6,[],[100000000]⟩,⟨8,[],[]⟩] (by kernel_rfl) ?_
 simp(disch:=omega)only[go_sem]
 refine qa (yE) ?_
 simp(disch:=omega)only[go_sem]
 refine qa (cs) ?_ (by simp(disch:=omega)only[go_sem,show(0-0:Int)=0 from rfl])
 simp(disch:=omega)only[go_sem]
 refine qa (cg) ?_
 simp(disch:=omega)only[go_sem]
 refine qa (cf) ?_
 simp(disch:=omega)only[go_sem]
 refine qa (ci) ?_
 simp(disch:=omega)only[go_sem]
 refine qa (cfi) ?_
 simp(disch:=omega)only[go_sem]
 refine qi (fun i:Nat=>[(1,.v (.int .i64 (-10))),(4,.pt 0 0),(6,.v (.int .i64 0)),(7,.v (.int .i64 (-22))),(8,.pt 1 0),(9,.pt 2 0),(10,.pt 3 0),(11,.v (.int .i64 ((i:Int)+1)))])
  (fun i=>[(0,.own 0 [.v (.int .i64 0),.v (.slice none 0 0)]),(1,.own 0 [.v (.int .i64 n),.sl hB.length (qn SpV.cs hB)]),(2,.own 0 [.v (.int .i64 n),.sl (hSt i).1.length (qn SpV.cs (hSt i).1)]),(3,.own 0 [.v (.int .i64 n),.sl (hSt i).2.length (qn SpV.cs (hSt i).2)])])
  (fun i=>i≤7) (fun i=>7-i) 0 (by omega)
  (Le.lst [(0,60000000),(1,100000000),(2,110000000),(3,120000000)] _ _ rfl (by simp(disch:=omega)only[go_sem,show(0:Int)+1=1 from rfl]) (by simp(disch:=omega)only[go_sem,show(hSt 0).2=(hSt 0).1 from rfl])) ?_
 intro i hi
 obtain⟨b1,b2,b3⟩:=atF i (by omega)
 obtain⟨l1,l2⟩:=JD i
 have ei:(i:Int)+1=((i+1:Nat):Int):=by omega
 have hBl:hB.length=1:=by decide+kernel
 have hBb:sbd (-190000) 190000 hB:=by decide+kernel
 have cT:=jP n (hSt i).2 hB hn (by rw[h1,l2]) (by rw[h1,hBl]) (qE b2 (by omega) (by omega)) hBb
 rw[show qC n (hSt i).2 hB=qC 1 (hSt i).2 hB by rw[h1]]at cT
 have hTl:(qC 1 (hSt i).2 hB).length=1:=zI
 have cD:=XO n (qC 1 (hSt i).2 hB) (i+1) (-22) (by omega) b3 (by omega) (by omega) (by omega)
 rw[←ei]at cD
 change Con _ _ _ _ _ (isA (.ag [.v (.int .i64 (n)),.sl ((hSt (i+1)).2).length (qn SpV.cs ((hSt (i+1)).2))]))at cD
 simp(disch:=omega)only[go_sem]
 refine ql (ct) ?_
 simp(disch:=omega)only[go_sem]
 refine qg (fun h2=>?_) (fun h2=>?_)
 ·have b4:=(atF (i+1) (by omega)).2.1
  have cP:=JY n (hSt i).1 (hSt (i+1)).2 (by omega) (by rw[l1];exact(JD (i+1)).2) (qE b1 (by omega) (by omega)) (qE b4 (by omega) (by omega))
  change Con _ _ _ _ _ (isA (.ag [.v (.int .i64 (n)),.sl ((hSt (i+1)).1).length (qn SpV.cs ((hSt (i+1)).1))]))at cP
  generalize qC 1 (hSt i).2 hB=T at*
  generalize hS2:(hSt (i+1)).2=S2 at*
  generalize hS1:(hSt (i+1)).1=S1 at*
  simp(disch:=omega)only[go_sem,h2]
  refine qa (cT) ?_
  simp(disch:=omega)only[go_sem]
  refine qa (cD) ?_
  simp(disch:=omega)only[go_sem]
  refine qa (cP) ?_
  simp(disch:=omega)only[go_sem]
  exact qb (i+1) [] (by show i+1≤7;omega) (by show 7-(i+1)<7-i;omega) rfl (by simp(disch:=omega)only[go_sem];try omega) (by simp(disch:=omega)only[go_sem,hS1,hS2])
 ·obtain rfl:i=7:=by omega
  simp(disch:=omega)only[go_sem,h2]
  refine qv rfl [⟨0,[],[]⟩,⟨2,[0],[]⟩,⟨1,[0],[]⟩,⟨3,[0],[]⟩,⟨4,[],[]⟩,⟨5,[],[]⟩] (by kernel_rfl) ?_
  simp(disch:=omega)only[go_sem]
  refine qa (yE) ?_
  simp(disch:=omega)only[go_sem]
  refine qa (cs2) ?_
  simp(disch:=omega)only[go_sem]
  refine qa (cft) ?_
  simp(disch:=omega)only[go_sem]
  refine qi (fun _:Nat=>[(1,.v (.int .i64 (-10))),(4,.pt 0 0),(9,.pt 2 0),(58,.v (.int .i64 0)),(59,.v (.int .i64 0))])
   (fun _=>[(0,.own 0 [.v (.int .i64 0),.v (.slice none 0 0)]),(2,.own 0 [.v (.int .i64 n),.sl aTF.length (qn SpV.cs aTF)])]) (fun _=>True) (fun _=>0) 0 trivial (Le.lst [] _ _ rfl (by simp(disch:=omega)only[go_sem]) (by simp(disch:=omega)only[go_sem])) ?_
  intro _ _
  have q:decide ((0:Int)<0)=false:=rfl
  simp(disch:=omega)only[go_sem,q]
  refine qa (cot) ?_ (by simp(disch:=omega)only[go_sem,show(-10-4:Int)= -14 from rfl])
  simp(disch:=omega)only[go_sem]
  exact qp
end Go.Ab
namespace Go.Ab
open Go Go.Proofs
section
variable (g:Nat)(p:DyV→Bool)
theorem am8(x:DyV)(hf:Con Tryz.prog g true [.ag x.cs] [] (isA (.v (.bool (p x)))))(hg:qo Tryz.prog g=True):
  Con Tryz.prog 297 true [.ag x.cs,.fp [.fn g []] 0] [] (isA (.v (.bool (!p x)))):=by
 unfold DyV.cs at hf ⊢
 refine Con.of_w (rs:=[.tmp 3]) Tryz.func297 rfl Tryz.ntmps297 rfl ?_
 simp(disch:=omega)only[go_sem,hg]
 refine qD hf (by simp(disch:=omega)only[go_sem]) ?_
 rintro r hs ⟨rfl,rfl,_⟩
 refine⟨by simp[qR],?_⟩
 simp(disch:=omega)only[go_sem]
 exact qB
theorem agq(f:Nat)(caps:List AV)(xs:List DyV)(hl:xs.length≤2^40)(hf:∀x∈xs,Con Tryz.prog f true (.ag x.cs::caps) [] (isA (.v (.bool (p x)))))(hg:qo Tryz.prog f=True)
  (hc:∀h:Nat→Ob,caps.map (qJ h 6)=caps) (hc5:∀h:Nat→Ob,caps.map (qJ h 5)=caps) (hn:∀ks,AllL (yJ ks) caps) (hr:∀ρ,zP ρ caps=caps):
  Con Tryz.prog 318 true [.sl xs.length (qn DyV.cs xs),.fn f caps] [] (fun r hs bs=>∃i:Int,r=.v (.int .i64 i)∧hs=[]∧(0≤i↔∃x∈xs,p x=true)):=by
 refine Con.of_aw Tryz.func318 rfl Tryz.ntmps318 (by simp) (by simp) (by simp) (W.sound ?_)
 show @W Tryz.prog 19 ⟨_⟩ ⟨fun x σ=>@q8 _ _ _ ⟨_⟩ _ ⟨_⟩ x σ⟩ _ _
 simp(disch:=omega)only[go_sem]
 refine qi (fun i:Nat=>[(0,.sl xs.length (qn DyV.cs xs)),(1,.fn f caps),(6,.sl xs.length (qn DyV.cs xs)),(7,.v (.int .i64 xs.length)),(8,.v (.int .i64 i))])
  (fun _=>[]) (fun i=>i≤xs.length∧∀j,j<i→p (xs.getD j ⟨false,[],0⟩)=false) (fun i=>xs.length-i) 0 ⟨by omega,fun j hj=>by omega⟩ (Le.lst [] _ _ rfl (by simp(disch:=omega)only[go_sem,hr,hn]) (by simp(disch:=omega)only[go_sem])) ?_
 rintro i ⟨hi,hp⟩
 simp(disch:=omega)only[go_sem]
 refine qg (fun h1=>?_) (fun h1=>?_)
 ·have hcut:=Y9 (l:=xs) ahx (i:=i) (by omega) ⟨false,[],0⟩
  simp(disch:=omega)only[go_sem,h1,hcut,hg]
  refine⟨by omega,by omega,qD (hf (xs.getD i ⟨false,[],0⟩) (by rw[List.getD_eq_getElem?_getD,List.getElem?_eq_getElem (by omega)];exact List.getElem_mem _)) (by simp(disch:=omega)only[go_sem,hc,hc5]) ?_⟩
  rintro r hs ⟨rfl,rfl,_⟩
  refine⟨by simp[qR],?_⟩
  simp(disch:=omega)only[go_sem]
  refine QA (fun h2=>?_) (fun h2=>?_)
  ·simp(disch:=omega)only[go_sem,h2]
   refine qz (by simp(disch:=omega)only[go_sem]) (by simp(disch:=omega)only[go_sem]) ⟨i,rfl,rfl,?_⟩
   refine⟨fun _=>⟨_,?_,h2⟩,fun _=>by omega⟩
   rw[List.getD_eq_getElem?_getD,List.getElem?_eq_getElem (by omega)];exact List.getElem_mem _
  ·simp(disch:=omega)only[go_sem,h2]
   refine qb (i+1) [] ⟨by omega,fun j hj=>?_⟩ (by show xs.length-(i+1)<xs.length-i;omega) rfl (by simp(disch:=omega)only[go_sem,hr,hn];try omega) (by simp(disch:=omega)only[go_sem])
   rcases(by omega:j<i∨j=i)with h|h
   ·exact hp j h
   ·subst h;exact h2
 ·simp(disch:=omega)only[go_sem,h1]
  refine qz (by simp(disch:=omega)only[go_sem]) (by simp(disch:=omega)only[go_sem]) ⟨-1,rfl,rfl,?_⟩
  refine⟨fun h=>by omega,fun⟨x,hx,hpx⟩=>?_⟩
  obtain⟨j,hj,rfl⟩:=List.getElem_of_mem hx
  have:=hp j (by omega)
  rw[List.getD_eq_getElem?_getD,List.getElem?_eq_getElem hj]at this
  simp only[Option.getD_some]at this
  rw[this]at hpx;cases hpx
theorem Yg(f:Nat)(caps:List AV)(xs:List DyV)(hl:xs.length≤2^40)(hf:∀x∈xs,Con Tryz.prog f true (.ag x.cs::caps) [] (isA (.v (.bool (p x)))))(hg:qo Tryz.prog f=True)
  (hc:∀h:Nat→Ob,caps.map (qJ h 6)=caps) (hc5:∀h:Nat→Ob,caps.map (qJ h 5)=caps) (hn:∀ks,AllL (yJ ks) caps) (hr:∀ρ,zP ρ caps=caps):
  Con Tryz.prog 296 true [.sl xs.length (qn DyV.cs xs),.fn f caps] [] (isA (.v (.bool (xs.any p)))):=by
 refine Con.of_aw Tryz.func296 rfl Tryz.ntmps296 (by simp) (by simp) (by simp) (W.sound ?_)
 show @W Tryz.prog 9 ⟨_⟩ ⟨fun x σ=>@q8 _ _ _ ⟨_⟩ _ ⟨_⟩ x σ⟩ _ _
 simp(disch:=omega)only[go_sem]
 refine qD (agq p f caps xs hl hf hg hc hc5 hn hr) (by simp(disch:=omega)only[go_sem,hc,hc5]) ?_
 rintro r hs ⟨i,rfl,rfl,hi⟩
 refine⟨by simp[qR],?_⟩
 simp(disch:=omega)only[go_sem]
 refine qz (by simp(disch:=omega)only[go_sem]) (by simp(disch:=omega)only[go_sem]) ⟨?_,rfl,rfl⟩
 have:decide (0≤i)=xs.any p:=by rw[Bool.eq_iff_iff,decide_eq_true_eq,hi,List.any_eq_true]
 rw[this];rfl
theorem auQ(xs:List DyV)(hl:xs.length≤2^40)(hf:∀x∈xs,Con Tryz.prog g true [.ag x.cs] [] (isA (.v (.bool (p x)))))(hg:qo Tryz.prog g=True):
  Con Tryz.prog 250 true [.sl xs.length (qn DyV.cs xs),.fn g []] [] (isA (.v (.bool (xs.all p)))):=by
 refine Con.of_aw Tryz.func250 rfl Tryz.ntmps250 (by simp) (by simp) (by simp) (W.sound ?_)
 show @W Tryz.prog 9 ⟨_⟩ ⟨fun x σ=>@q8 _ _ _ ⟨_⟩ _ ⟨_⟩ x σ⟩ _ _
 simp(disch:=omega)only[go_sem]
 refine qD (Yg (fun x=> !p x) 297 [.fp [.fn g []] 0] xs hl (fun x hx=>am8 g p x (hf x hx) hg) (by simp(disch:=omega)only[go_sem]) (fun h=>rfl) (fun h=>rfl) (fun ks=>by simp(disch:=omega)only[go_sem]) (fun ρ=>rfl)) (by simp(disch:=omega)only[go_sem]) ?_
 rintro r hs ⟨rfl,rfl,_⟩
 refine⟨by simp[qR],?_⟩
 simp(disch:=omega)only[go_sem]
 refine qz (by simp(disch:=omega)only[go_sem]) (by simp(disch:=omega)only[go_sem]) ⟨?_,rfl,rfl⟩
 have:(!xs.any fun x=> !p x)=xs.all p:=by rw[List.all_eq_not_any_not]
 rw[this];rfl
end
def DyV.ok(x:DyV):Bool:=dyB x.s x.xs x.e
theorem YO(xs:List DyV)(hl:xs.length≤2^40)(hx:∀x∈xs,x.xs.length≤2^40):Con Tryz.prog 164 true [.sl xs.length (qn DyV.cs xs)] [] (isA (.v (.bool (xs.all DyV.ok)))):=by
 refine Con.of_w (rs:=[.tmp 2]) Tryz.func164 rfl Tryz.ntmps164 rfl ?_
 simp(disch:=omega)only[go_sem]
 refine ql (auQ 74 DyV.ok xs hl (fun x h=>ahD x.s x.xs x.e (hx x h)) (by simp(disch:=omega)only[go_sem])) ?_
 simp(disch:=omega)only[go_sem]
 exact qB
def amn(n:Int)(l:List DyV):Bool:=(decide (1≤n)&&decide (n≤4))&&(decide ((l.length:Int)=n*n)&&l.all DyV.ok)
theorem aca(n:Int)(l:List DyV)(hl:l.length≤2^40)(hx:∀x∈l,x.xs.length≤2^40):Con Tryz.prog 73 true [.ag [.v (.int .i64 n),.sl l.length (qn DyV.cs l)]] [] (isA (.v (.bool (amn n l)))):=by
 unfold amn
 cases h1:(decide (1≤n)&&decide (n≤4))
 ·rw[Bool.false_and]
  refine Con.of_w (rs:=[.tmp 2]) Tryz.func73 rfl Tryz.ntmps73 rfl ?_
  simp(disch:=omega)only[go_sem]
  refine ql (zt n 1 4) ?_
  simp(disch:=omega)only[go_sem]
  simp(disch:=omega)only[go_sem,h1]
  exact qB
 ·rw[Bool.true_and]
  have h1':1≤n∧n≤4:=by simpa using h1
  have hq:0≤n*n∧n*n≤16:=⟨Int.mul_nonneg (by omega) (by omega),Int.mul_le_mul h1'.2 h1'.2 (by omega) (by omega)⟩
  cases h2:decide ((l.length:Int)=n*n)
  ·rw[Bool.false_and]
   refine Con.of_w (rs:=[.tmp 2]) Tryz.func73 rfl Tryz.ntmps73 rfl ?_
   simp(disch:=omega)only[go_sem]
   refine ql (zt n 1 4) ?_
   simp(disch:=omega)only[go_sem]
   simp(disch:=omega)only[go_sem,h1,h2]
   exact qB
  ·rw[Bool.true_and]
   refine Con.of_w (rs:=[.tmp 2]) Tryz.func73 rfl Tryz.ntmps73 rfl ?_
   simp(disch:=omega)only[go_sem]
   refine ql (zt n 1 4) ?_
   simp(disch:=omega)only[go_sem]
   simp(disch:=omega)only[go_sem,h1,h2]
   refine ql (YO l hl hx) ?_
   simp(disch:=omega)only[go_sem]
   exact qB
end Go.Ab
namespace Go.Ab
open Go Go.Proofs
def ExV.dy(x:ExV):DyV:=⟨x.s,lim x.m,x.e⟩
theorem aKy(l:List ExV):qn ExV.cs l=qn DyV.cs (l.map ExV.dy):=by unfold qn;rw[List.map_map];rfl
def ExV.ok(x:ExV):Bool:=dyB x.s (lim x.m) x.e
def aQW(n:Int)(l:List ExV):Bool:=(decide (1≤n)&&decide (n≤4))&&(decide ((l.length:Int)=n*n)&&l.all ExV.ok)
theorem aQV(n:Int)(l:List ExV):amn n (l.map ExV.dy)=aQW n l:=by
 unfold amn aQW
 rw[List.length_map,List.all_map];rfl
theorem YP(n:Int)(l:List ExV)(hl:l.length≤2^40)(hx:∀x∈l,(lim x.m).length≤2^40):Con Tryz.prog 73 true [.ag [.v (.int .i64 n),.sl l.length (qn ExV.cs l)]] [] (isA (.v (.bool (aQW n l)))):=by
 have:=aca n (l.map ExV.dy) (by rw[List.length_map];exact hl) (fun x h=>by
  obtain⟨y,hy,rfl⟩:=List.mem_map.1 h
  exact hx y hy)
 rw[aQV,←aKy,List.length_map]at this
 exact this
theorem Qu{x:ExV}(h:x.ok=true):x.bd (-3000) 4600:=by
 obtain⟨m,e1,h1,h2,h3,_,h4⟩:=JK h
 have e2:x.m=m:=Qz e1
 subst e2
 exact⟨h4,by omega,by omega⟩
def amh(F:List SpV)(X:List ExV)(k:Nat):List ExV:=(List.range k).map fun i=>ze [((F.getD i sp0).hi.plus (X.getD i ex0).neg).abs,((X.getD i ex0).plus (F.getD i sp0).lo.neg).abs]
theorem QQ{F:List SpV}{X:List ExV}{k:Nat}:(amh F X k).length=k:=by simp[amh]
theorem asU{F:List SpV}{X:List ExV}{k:Nat}:amh F X (k+1)=amh F X k++[ze [((F.getD k sp0).hi.plus (X.getD k ex0).neg).abs,((X.getD k ex0).plus (F.getD k sp0).lo.neg).abs]]:=by simp[amh,List.range_succ]
theorem asT{lo hi:Int}{s:SpV}{x:ExV}(hs:s.bd lo hi)(hx:x.bd lo hi):gbd lo (hi+1) [(s.hi.plus x.neg).abs,(x.plus s.lo.neg).abs]:=by
 intro y hy
 simp only[List.mem_cons,List.not_mem_nil,or_false]at hy
 rcases hy with rfl|rfl
 ·exact ExV.abs_bd (ExV.plus_bd hs.2 (ExV.neg_bd hx))
 ·exact ExV.abs_bd (ExV.plus_bd hx (ExV.neg_bd hs.1))
theorem aQl{lo hi:Int}{F:List SpV}{X:List ExV}{k:Nat}(hF:sbd lo hi F)(hX:gbd lo hi X)(h1:k≤F.length)(h2:k≤X.length):gbd lo (hi+1) (amh F X k):=by
 intro y hy
 simp only[amh,List.mem_map,List.mem_range]at hy
 obtain⟨i,hi,rfl⟩:=hy
 exact QS (asT (jB hF (by omega)) (zj hX (by omega))) (by simp)
def aht(n:Nat)(F:List SpV)(low:Int):List ExV:=aRq n (F.map afO) low 0
def yn(n:Nat)(F:List SpV)(low:Int):ExV:=qS n (amh F (aht n F low) (n*n)) n
theorem aQT{lo hi:Int}{s:SpV}(hs:s.bd lo hi):(afO s).bd (lo-1) hi:=by
 have:=ExV.shift_bd (k:= -1) (ExV.plus_bd hs.1 hs.2)
 exact this.mono (by omega) (by omega)
theorem aRp{lo hi low mode:Int}{n:Nat}{l:List ExV}(hl:l.length=n*n)(h:gbd lo hi l)(h1:lo≤low)(h2:low≤hi):gbd lo (hi+1) (aRq n l low mode):=
 aHJ fun i j hi hj=>ExV.rnd_bd (zj h (by rw[hl];exact qT hi hj)) h1 h2
set_option maxRecDepth 100000 in
set_option maxHeartbeats 2000000 in
theorem agz(n:Nat)(L:List ExV)(low:Int)(F:List SpV)(hn:n≤4)(hL:L.length=n*n)(hlow: -1000≤low∧low≤1000)(ca:Con Tryz.prog 69 true [.ag [.v (.int .i64 (n)),.sl (L).length (qn ExV.cs (L))],.v (.int .i64 low)] [] (isA (.v (.bool true))))
  (ch:Con Tryz.prog 71 false [.ag [.v (.int .i64 (n)),.sl (L).length (qn ExV.cs (L))],.v (.int .i64 low)] [] (isA (.ag [.v (.int .i64 (n)),.sl (F).length (qn SpV.cs (F))]))) (hF:F.length=n*n) (hFb:sbd (-300000) 300000 F) (hfit:F.all SpV.fit=true):
  Con Tryz.prog 65 false [.ag [.v (.int .i64 (n)),.sl (L).length (qn ExV.cs (L))],.v (.int .i64 low)] []
   (isA (if((aht n F low).all ExV.fit&&(yn n F low).fit)=true then .tu [.ag [.v (.int .i64 n),.sl (aht n F low).length (qn ExV.cs ((aht n F low).map ExV.can))],.ag [.v (.bool ((yn n F low).can).s),.sl (lim ((yn n F low).can).m).length (qe (lim ((yn n F low).can).m)),.v (.int .i64 ((yn n F low).can).e)],.v (.bool true)]else .tu [.ag [.v (.int .i64 0),.sl 0 []],.ag [.v (.bool (false)),.sl (lim (0)).length (qe (lim (0))),.v (.int .i64 (0))],.v (.bool false)])):=by
 refine Con.frzA ?_
 have hq:=j7 hn
 have cg:=zX n L (by omega)
 have cv:=JW n F (by omega) (qE hFb (by omega) (by omega))
 rw[hfit,if_pos rfl]at cv
 have cm:=aSA n F (by omega) (qE hFb (by omega) (by omega))
 have hml:(F.map afO).length=n*n:=by rw[List.length_map,hF]
 have hmb:gbd (-300001) 300000 (F.map afO):=by
  intro x hx
  obtain⟨s,hs,rfl⟩:=List.mem_map.1 hx
  exact(aQT (hFb s hs)).mono (by omega) (by omega)
 have cr:=aIQ n (F.map afO) low 0 hn hml (je hmb (by omega) (by omega)) (by omega)
 have hXl:(aht n F low).length=n*n:=by unfold aht aRq;exact z7
 have hXb:gbd (-300001) 300001 (aht n F low):=aRp hml hmb (by omega) (by omega)
 change Con _ _ _ _ _ (isA (.ag [.v (.int .i64 (n)),.sl (aht n F low).length (qn ExV.cs (aht n F low))]))at cr
 have hOb:gbd (-300001) 300002 (amh F (aht n F low) (n*n)):=aQl (qE hFb (by omega) (by omega)) hXb (by omega) (by omega)
 have cno:=Qd n (amh F (aht n F low) (n*n)) hn QQ (je hOb (by omega) (by omega))
 change Con _ _ _ _ _ (isA (.ag [.v (.bool (yn n F low).s),.sl (lim (yn n F low).m).length (qe (lim (yn n F low).m)),.v (.int .i64 (yn n F low).e)]))at cno
 have hFar:(yn n F low).bd (-300001) 300006:=(jZ QQ hOb (by omega) n (Nat.le_refl _)).mono (by omega) (by omega)
 have cw:=Ye n (aht n F low) (yn n F low) (by omega) (je hXb (by omega) (by omega)) (hFar.mono (by omega) (by omega))
 generalize yn n F low=far at*
 generalize aht n F low=X at*
 generalize F.map afO=M at*
 generalize F.map SpV.can=FC at*
 refine Con.of_w (rs:=[.cell 4 25,.cell 5 42,.tmp 6]) Tryz.func65 rfl Tryz.ntmps65 rfl ?_
 simp(disch:=omega)only[go_sem]
 refine ql (ca) ?_
 simp(disch:=omega)only[go_sem]
 refine qa (cg) ?_
 simp(disch:=omega)only[go_sem]
 refine qa (ch) ?_
 simp(disch:=omega)only[go_sem]
 refine qa (cv) ?_
 simp(disch:=omega)only[go_sem]
 refine qa (cm) ?_
 simp(disch:=omega)only[go_sem]
 refine qa (cr) ?_
 simp(disch:=omega)only[go_sem]
 refine qi (fun i:Nat=>[(4,.pt 2 0),(5,.pt 3 0),(7,.pt 4 0),(10,.pt 5 0),(11,.pt 0 0),(41,.sl F.length (qn SpV.cs F)),(42,.v (.int .i64 F.length)),(43,.v (.int .i64 i))])
  (fun i=>[(0,.own 0 [.v (.int .i64 n),.rf 1 0 i]),(1,.own 3 (qn ExV.cs (amh F X i))),(2,.own 0 [.v (.int .i64 0),.v (.slice none 0 0)]),(3,.own 0 [.v (.bool false),.v (.slice none 0 0),.v (.int .i64 0)]),(4,.own 0 [.v (.int .i64 n),.sl F.length (qn SpV.cs F)]),(5,.own 0 [.v (.int .i64 n),.sl X.length (qn ExV.cs X)])])
  (fun i=>i≤F.length) (fun i=>F.length-i) 0 (by omega)
  ((Le.ghostC 130000000 1 1 3 (zo:=0) (cs:=[.v (.int .i64 n),.v (.slice none 0 0)]) (by simp(disch:=omega)only[go_sem]) rfl (by simp(disch:=omega)only[go_sem])).trans (Le.lst [(0,130000000),(2,60000000),(3,70000000),(4,90000000),(5,120000000)] _ _ rfl (by simp(disch:=omega)only[go_sem]) (by simp(disch:=omega)only[go_sem,show amh F X 0=[] from rfl,Zo,List.set_cons_succ,List.set_cons_zero]))) ?_
 intro i hi
 simp(disch:=omega)only[go_sem]
 refine qg (fun h1=>?_) (fun h1=>?_)
 ·have hi2:i<F.length:=by omega
  have hci:=j8 hi2
  have hcx:=jl (l:=X) (i:=i) (by omega)
  have hcut:=zT (QQ (F:=F) (X:=X) (k:=i))
  have hs:=asU (F:=F) (X:=X) (k:=i)
  have bs:=jB hFb hi2
  have bx:=zj hXb (show i<X.length by omega)
  have b2:=asT (SpV.bd.mono bs (by omega) (by omega)) bx
  generalize F.getD i sp0=s at*
  generalize X.getD i ex0=x at*
  simp(disch:=omega)only[go_sem,h1,hci]
  refine⟨by omega,by omega,?_⟩
  refine qv rfl [⟨0,[],[]⟩,⟨1,[],[]⟩,⟨2,[1],[]⟩,⟨3,[1],[]⟩,⟨4,[1,3],[]⟩,⟨5,[1,3],[]⟩,⟨6,[1,3,5],[]⟩,⟨7,[1,3],[]⟩,⟨8,[1,3],[]⟩,⟨11,[1,3,5,8],[]⟩,⟨12,[1,3,5,8],[]⟩,⟨13,[1,3,5,8,12],[]⟩,⟨14,[1,3,5,8],[]⟩,⟨15,[1,3,5,8],[]⟩,⟨16,[1,3,5,8,12,15],[]⟩,⟨17,[1,3,5,8,12,15],[]⟩,⟨9,[1,12,15,17],[]⟩,⟨10,[1,12,15,17],[]⟩,⟨18,[1],[]⟩,⟨19,[1],[]⟩,⟨20,[1],[]⟩,⟨21,[1],[]⟩,⟨22,[1],[]⟩,⟨23,[],[]⟩,⟨24,[],[]⟩,⟨25,[],[]⟩] (by kernel_rfl) ?_
  simp(disch:=omega)only[go_sem,hcx]
  refine⟨by omega,by omega,by omega,by omega,?_⟩
  refine qa (Zt s.hi x (bs.2.mono (by omega) (by omega)) (bx.mono (by omega) (by omega))) ?_
  simp(disch:=omega)only[go_sem]
  refine qa (XS (s.hi.plus x.neg)) ?_
  simp(disch:=omega)only[go_sem]
  refine qa (Zt x s.lo (bx.mono (by omega) (by omega)) (bs.1.mono (by omega) (by omega))) ?_
  simp(disch:=omega)only[go_sem]
  refine qa (XS (x.plus s.lo.neg)) ?_
  simp(disch:=omega)only[go_sem]
  generalize (s.hi.plus x.neg).abs=A at*
  generalize (x.plus s.lo.neg).abs=B at*
  have hrow:([.v (.bool A.s),.sl (lim A.m).length (qe (lim A.m)),.v (.int .i64 A.e),.v (.bool B.s),.sl (lim B.m).length (qe (lim B.m)),.v (.int .i64 B.e)]:List AV)=qn ExV.cs [A,B]:=rfl
  rw[hrow]
  refine zd false [700000000] (JS [A,B] (by simp) (by simp) (je b2 (by omega) (by omega))) (by simp(disch:=omega)only[go_sem]) (by simp(disch:=omega)only[go_sem]) rfl (qQ (z:=3) (cs:=qn ExV.cs [A,B]) (by simp(disch:=omega)only[go_sem]) (by simp(disch:=omega)only[go_sem])) (by intro n hn;exact⟨_,List.mem_cons_self ..,by rw[List.mem_singleton.1 hn];rfl⟩) ?_
  rintro r hs2 bs2 ⟨rfl,rfl,rfl⟩-
  refine⟨by simp[qR],?_⟩
  simp(disch:=omega)only[go_sem,hcut,QZ]
  refine⟨⟨by rw[QQ];exact Nat.le_refl _,by omega⟩,qb (i+1) [(1,730000000)] (by show i+1≤_;omega) (by show F.length-(i+1)<F.length-i;omega) rfl (by simp(disch:=omega)only[go_sem];try omega) (by simp(disch:=omega)only[go_sem,hs])⟩
 ·simp(disch:=omega)only[go_sem,h1]
  obtain rfl:i=F.length:=by omega
  have hol:=QQ (F:=F) (X:=X) (k:=n*n)
  rw[hF]
  generalize amh F X (n*n)=O at*
  rw[hol]at cno
  refine aSu (E:=[(4,.pt 2 0),(5,.pt 3 0),(10,.pt 5 0),(11,.pt 0 0)]) (H:=[(0,.own 0 [.v (.int .i64 n),.sl (n*n) (qn ExV.cs O)]),(2,.own 0 [.v (.int .i64 0),.v (.slice none 0 0)]),(3,.own 0 [.v (.bool false),.v (.slice none 0 0),.v (.int .i64 0)]),(5,.own 0 [.v (.int .i64 n),.sl X.length (qn ExV.cs X)])])
   ((Le.frz 1 (z:=3) (ks:=qn ExV.cs O) (by simp(disch:=omega)only[go_sem]) rfl (by simp(disch:=omega)only[go_sem])).trans (Le.lst [] _ _ rfl (by simp(disch:=omega)only[go_sem]) (by simp(disch:=omega)only[go_sem,zT hol]))) ?_
  refine qv rfl [⟨0,[],[]⟩,⟨1,[0],[]⟩,⟨2,[0],[]⟩,⟨3,[],[]⟩,⟨4,[],[]⟩,⟨5,[],[]⟩,⟨6,[],[]⟩,⟨7,[],[]⟩,⟨8,[],[]⟩,⟨9,[],[]⟩] (by kernel_rfl) ?_
  simp(disch:=omega)only[go_sem]
  refine qa (cno) ?_
  simp(disch:=omega)only[go_sem]
  cases hc:(X.all ExV.fit&&far.fit)
  ·rw[hc,if_neg (by simp)]at cw
   rw[if_neg (by simp)]
   refine qa (cw) ?_
   simp(disch:=omega)only[go_sem]
   exact qp (hp:=by simp(disch:=omega)only[go_sem,qs,List.length_nil,jH])
  ·rw[hc,if_pos rfl]at cw
   rw[if_pos rfl]
   refine qa (cw) ?_
   simp(disch:=omega)only[go_sem]
   exact qp
theorem abZ(n:Nat)(h1:n=1):Con Tryz.prog 69 true [.ag [.v (.int .i64 (n)),.sl ([ex0]).length (qn ExV.cs ([ex0]))],.v (.int .i64 (-10))] [] (isA (.v (.bool true))):=by
 have cm:=YP n [ex0] (by decide) (by intro x hx;rw[List.mem_singleton.1 hx];show(lim 0).length≤_;rw[qs];decide)
 have hm:aQW n [ex0]=true:=by
  rw[h1];unfold aQW;rw[List.all_cons,List.all_nil,show ex0.ok=true by show dyB false (lim 0) 0=true;rw[qs];decide];decide
 rw[hm]at cm
 have cg:=zX n [ex0] (by decide)
 have cn:=Qd n [ex0] (by omega) (by rw[h1];rfl) (by decide+kernel)
 rw[show qS n [ex0] n=ex0 by rw[h1];decide+kernel]at cn
 have cc:=jt ex0 (exN 64) (by decide+kernel) (by decide+kernel)
 rw[show ex0.cmp (exN 64)= -1 by decide+kernel]at cc
 have q:decide ((-1:Int)≤0)=true:=rfl
 have q1:(decide ((-120:Int)≤ -10)&&decide ((-10:Int)≤0))=true:=rfl
 have cwi:=zt (-10) (-120) 0
 rw[q1]at cwi
 refine Con.of_w (rs:=[.tmp 4]) Tryz.func69 rfl Tryz.ntmps69 rfl ?_
 simp(disch:=omega)only[go_sem]
 refine ql (cm) ?_
 simp(disch:=omega)only[go_sem]
 refine ql (cwi) ?_
 simp(disch:=omega)only[go_sem]
 refine qa (cg) ?_
 simp(disch:=omega)only[go_sem]
 refine qa (cn) ?_
 simp(disch:=omega)only[go_sem]
 refine qa (zF 64 (by omega)) ?_
 simp(disch:=omega)only[go_sem]
 refine qD cc (by simp(disch:=omega)only[go_sem,exN]) ?_
 rintro r hs ⟨rfl,rfl,_⟩
 refine⟨by simp[qR],?_⟩
 simp(disch:=omega)only[go_sem,q]
 exact qB
end Go.Ab
namespace Go.Ab
open Go Go.Proofs
theorem yp(cl:Bool)(xs:List Int)(m:Nat)(hl:xs.length≤2^39)(hx:gd xs)(hv:vl xs=(m:Int)):Con Tryz.prog 284 cl [.sl xs.length (qe xs)] [] (aQR m):=by
 refine Con.of_aw Tryz.func284 rfl Tryz.ntmps284 (by simp) (by simp) (by simp) (W.sound ?_)
 show @W Tryz.prog 24 ⟨_⟩ ⟨fun x σ=>@q8 _ _ _ ⟨_⟩ _ ⟨_⟩ x σ⟩ _ _
 simp(disch:=omega)only[go_sem]
 have hcz:JQ xs=lim m:=by rw[js hx,hv,Int.toNat_natCast]
 refine qi (fun k:Nat=>[(0,.sl xs.length (qe xs)),(2,.pt 40000000 0),(3,.v (.int .i64 k))]) (fun _=>[(40000000,.own 0 [.v (.slice none 0 0)])]) (fun k=>k≤xs.length∧JQ (xs.take k)=JQ xs) id xs.length ⟨Nat.le_refl _,by simp⟩
  (Le.lst [] _ _ rfl (by simp(disch:=omega)only[go_sem]) (by simp(disch:=omega)only[go_sem])) ?_
 intro k ⟨hk,hc⟩
 have hkx:∀j,j+1=k→xs.take k=xs.take j++[xs.getD j 0]:=fun j hj=>by rw[←hj];exact ye (by omega)
 simp(disch:=omega)only[go_sem]
 refine qg (fun h1=>?_) (fun h1=>?_)
 ·obtain⟨j,rfl⟩:∃j,k=j+1:=⟨k-1,by omega⟩
  have e1:((j+1:Nat):Int)-1=(j:Nat):=by omega
  rw[hkx j rfl]at hc
  simp(disch:=omega)only[go_sem,h1,e1]
  refine⟨by omega,by omega,qg (fun h2=>?_) (fun h2=>?_)⟩
  ·simp(disch:=omega)only[go_sem,h2,e1]
   rw[h2,Q1]at hc
   exact qb j [] ⟨by omega,hc⟩ (by show j<j+1;omega) rfl (by simp(disch:=omega)only[go_sem];try omega) (by simp(disch:=omega)only[go_sem])
  ·rw[XG _ h2,←hkx j rfl,hcz]at hc
   have hlm:j+1=(lim m).length:=by rw[←hc,List.length_take];omega
   have e0:(((j+1:Nat):Int)-0).toNat=(lim m).length:=by omega
   rw[hlm]at hc
   simp(disch:=omega)only[go_sem,h2,e0,hc]
   refine⟨by omega,by omega,?_⟩
   refine qh [(0,240000000)] [.own 1 (qe (lim m))] [] [.ag [.rf 0 0 (lim m).length]] rfl (by simp(disch:=omega)only[go_sem]) (by simp(disch:=omega)only[go_sem]) (by simp) (by intro _;simp[zy,AV.pu,AV.pu.puL,Ob.pu,zi]) (.inr ⟨[],rfl,by rw[List.append_nil]⟩)
 ·have hlm:k=(lim m).length:=by
   have:k=0:=by omega
   rw[←hcz,←hc,this];rfl
  subst hlm
  have hc:xs.take (lim m).length=lim m:=by
   have:lim m=[]:=List.length_eq_zero_iff.1 (by omega)
   rw[this];simp
  have e0:(((lim m).length:Int)-0).toNat=(lim m).length:=by omega
  simp(disch:=omega)only[go_sem,h1,e0,hc]
  refine⟨by omega,by omega,?_⟩
  refine qh [(0,240000000)] [.own 1 (qe (lim m))] [] [.ag [.rf 0 0 (lim m).length]] rfl (by simp(disch:=omega)only[go_sem]) (by simp(disch:=omega)only[go_sem]) (by simp) (by intro _;simp[zy,AV.pu,AV.pu.puL,Ob.pu,zi]) (.inr ⟨[],rfl,by rw[List.append_nil]⟩)
theorem XL(cl:Bool)(n:Nat)(hn:n<2^63):Con Tryz.prog 257 cl [.v (.int .i64 n)] [] (aQR n):=by
 refine Con.of_aw Tryz.func257 rfl Tryz.ntmps257 (by simp) (by simp) (by simp) (W.sound ?_)
 show @W Tryz.prog 15 ⟨_⟩ ⟨fun x σ=>@q8 _ _ _ ⟨_⟩ _ ⟨_⟩ x σ⟩ _ _
 simp(disch:=omega)only[go_sem]
 refine qi (fun x:Nat×List Int=>[(0,.v (.int .i64 x.1)),(2,.pt 2 0),(3,.rf 1 0 x.2.length)]) (fun x=>[(1,.own 1 (qe x.2)),(2,.own 0 [.v (.slice none 0 0)])]) (fun x=>x.1<2^63∧x.2++lim x.1=lim n) (fun x=>x.1) (n,[]) ⟨hn,rfl⟩
  ((Le.ghost 3 1 1 (by simp(disch:=omega)only[go_sem]) (by simp(disch:=omega)only[go_sem])).trans (Le.lst [(2,40000000)] _ _ rfl (by simp(disch:=omega)only[go_sem]) (by simp(disch:=omega)only[go_sem]))) ?_
 rintro⟨k,l⟩ ⟨hk,hl⟩
 dsimp only at hk hl ⊢
 have hlen:l.length≤4:=by
  have h1:=congrArg List.length hl
  have h2:=j9 (n:=n) (k:=4) |>.2 (by omega)
  rw[List.length_append]at h1;omega
 simp(disch:=omega)only[go_sem]
 refine qg (fun h1=>?_) (fun h1=>?_)
 ·simp(disch:=omega)only[go_sem,h1]
  have hk0:k≠0:=by omega
  refine⟨by omega,qb (k/65536,l++[(k:Int) % 65536]) [(1,120000000)] ⟨by show k/65536<2^63;omega,?_⟩ (by show k/65536<k;omega) rfl (by simp(disch:=omega)only[go_sem,List.length_append];try omega) (by simp(disch:=omega)only[go_sem])⟩
  rw[yC hk0]at hl
  rw[←hl,List.append_assoc];rfl
 ·simp(disch:=omega)only[go_sem,h1]
  have hk0:k=0:=by omega
  subst hk0
  rw[qs,List.append_nil]at hl
  subst hl
  refine qh [(0,1)] [.own 1 (qe (lim n++[]))] [] [.ag [.rf 0 0 (lim n).length]] rfl (by simp(disch:=omega)only[go_sem]) (by simp(disch:=omega)only[go_sem]) (by simp) (by intro _;simp[zy,AV.pu,AV.pu.puL,Ob.pu,zi]) (.inr ⟨[],rfl,rfl⟩)
end Go.Ab
namespace Go.Ab
open Go Go.Proofs
set_option maxRecDepth 100000 in
theorem auF(cl:Bool)(a b:Nat)(la:(lim a).length≤2000000)(lb:(lim b).length≤2000000):Con Tryz.prog 256 cl [.ag [.sl (lim (a)).length (qe (lim (a)))],.ag [.sl (lim (b)).length (qe (lim (b)))]] [] (aQR (a+b)):=by
 refine Con.of_aw Tryz.func256 rfl Tryz.ntmps256 (by simp) (by simp) (by simp) (W.sound ?_)
 show @W Tryz.prog 61 ⟨_⟩ ⟨fun x σ=>@q8 _ _ _ ⟨_⟩ _ ⟨_⟩ x σ⟩ _ _
 simp(disch:=omega)only[go_sem]
 have hA:=zr a
 have hB:=zr b
 refine qi (fun x:Nat×List Int×Int=>[(2,.pt 3 0),(3,.pt 4 0),(4,.pt 2 0),(5,.rf 1 0 x.2.1.length),(6,.v (.int .i64 x.2.2)),(7,.v (.int .i64 x.1))])
  (fun x=>[(1,.own 1 (qe x.2.1)),(2,.own 0 [.v (.slice none 0 0)]),(3,.own 0 [.sl (lim (a)).length (qe (lim (a)))]),(4,.own 0 [.sl (lim (b)).length (qe (lim (b)))])])
  (fun x=>x.1≤max (lim a).length (lim b).length+1∧x.2.1.length=x.1∧gd x.2.1∧(0≤x.2.2∧x.2.2≤1)∧vl x.2.1+65536^x.1*x.2.2=vl ((lim a).take x.1)+vl ((lim b).take x.1)∧(max (lim a).length (lim b).length<x.1→x.2.2=0))
  (fun x=>2*(max (lim a).length (lim b).length-x.1)+x.2.2.toNat) (0,[],0) ⟨by simp,rfl,YA,by simp,by simp[vl],fun h=>rfl⟩
  ((Le.ghost 5 1 1 (by simp(disch:=omega)only[go_sem]) (by simp(disch:=omega)only[go_sem])).trans (Le.lst [(2,60000000),(3,40000000),(4,50000000)] _ _ rfl (by simp(disch:=omega)only[go_sem]) (by simp(disch:=omega)only[go_sem]))) ?_
 rintro⟨i,out,cy⟩ ⟨hi,hol,hog,hcy,hov,hcz⟩
 dsimp only at hi hol hog hcy hov hcz ⊢
 have hx:=qO hA i
 have hy:=qO hB i
 have hxz:¬(i:Int)<(lim a).length→(lim a).getD i 0=0:=fun h=>by rw[List.getD_eq_getElem?_getD,List.getElem?_eq_none (by omega)];rfl
 have hyz:¬(i:Int)<(lim b).length→(lim b).getD i 0=0:=fun h=>by rw[List.getD_eq_getElem?_getD,List.getElem?_eq_none (by omega)];rfl
 have hstep:∀q:Int,q=cy+(lim a).getD i 0+(lim b).getD i 0→vl (out++[q % 65536])+65536^(i+1)*(q/65536)=vl ((lim a).take (i+1))+vl ((lim b).take (i+1)):=by
  intro q hq
  rw[j6,zh,zh,hol,Int.pow_succ]
  have e3:q % 65536+65536*(q/65536)=q:=Int.emod_add_mul_ediv q 65536
  generalize (65536:Int)^i=Pi at*
  grind
 have key:∀q:Int,q=cy+(lim a).getD i 0+(lim b).getD i 0→(i:Int)<(lim a).length∨(i:Int)<(lim b).length∨0<cy→
   ((i+1≤max (lim a).length (lim b).length+1∧(out++[q % 65536]).length=i+1∧gd (out++[q % 65536])∧(0≤q/65536∧q/65536≤1)∧vl (out++[q % 65536])+65536^(i+1)*(q/65536)=vl ((lim a).take (i+1))+vl ((lim b).take (i+1))∧(max (lim a).length (lim b).length<i+1→q/65536=0))∧
   2*(max (lim a).length (lim b).length-(i+1))+(q/65536).toNat<2*(max (lim a).length (lim b).length-i)+cy.toNat):=by
  intro q hq hc
  have hle:i≤max (lim a).length (lim b).length:=by
   rcases Nat.lt_or_ge (max (lim a).length (lim b).length) i with h|h
   ·have:=hcz h;omega
   ·exact h
  have hbig:max (lim a).length (lim b).length<i+1→q/65536=0:=fun h=>by
   have:=hxz (by omega)
   have:=hyz (by omega)
   omega
  refine⟨⟨by omega,by simp[hol],qP.2 ⟨hog,jV.2 (by omega)⟩,by omega,hstep q hq,hbig⟩,?_⟩
  by_cases hm:max (lim a).length (lim b).length<i+1
  ·have:=hbig hm;omega
  ·omega
 by_cases h1:(i:Int)<(lim a).length<;>by_cases h2:(i:Int)<(lim b).length
 ·simp(disch:=omega)only[go_sem,h1,h2]
  obtain⟨k1,k2⟩:=key _ rfl (.inl h1)
  refine⟨by omega,by omega,by omega,by omega,by omega,qb (i+1,out++[(cy+(lim a).getD i 0+(lim b).getD i 0) % 65536],(cy+(lim a).getD i 0+(lim b).getD i 0)/65536) [(1,580000000)] k1 k2 rfl (by simp(disch:=omega)only[go_sem,List.length_append];try omega) (by simp(disch:=omega)only[go_sem])⟩
 ·simp(disch:=omega)only[go_sem,h1,h2]
  have e0:cy+(lim a).getD i 0=cy+(lim a).getD i 0+(lim b).getD i 0:=by rw[hyz h2];omega
  obtain⟨k1,k2⟩:=key (cy+(lim a).getD i 0) e0 (.inl h1)
  refine⟨by omega,by omega,by omega,qb (i+1,out++[(cy+(lim a).getD i 0) % 65536],(cy+(lim a).getD i 0)/65536) [(1,580000000)] k1 k2 rfl (by simp(disch:=omega)only[go_sem,List.length_append];try omega) (by simp(disch:=omega)only[go_sem])⟩
 ·simp(disch:=omega)only[go_sem,h1,h2]
  have e0:cy+(lim b).getD i 0=cy+(lim a).getD i 0+(lim b).getD i 0:=by rw[hxz h1];omega
  obtain⟨k1,k2⟩:=key (cy+(lim b).getD i 0) e0 (.inr (.inl h2))
  refine⟨by omega,by omega,by omega,qb (i+1,out++[(cy+(lim b).getD i 0) % 65536],(cy+(lim b).getD i 0)/65536) [(1,580000000)] k1 k2 rfl (by simp(disch:=omega)only[go_sem,List.length_append];try omega) (by simp(disch:=omega)only[go_sem])⟩
 ·by_cases h3:0<cy
  ·simp(disch:=omega)only[go_sem,h1,h2,h3]
   have e0:cy=cy+(lim a).getD i 0+(lim b).getD i 0:=by rw[hxz h1,hyz h2];omega
   obtain⟨k1,k2⟩:=key cy e0 (.inr (.inr h3))
   refine⟨by omega,qb (i+1,out++[cy % 65536],cy/65536) [(1,580000000)] k1 k2 rfl (by simp(disch:=omega)only[go_sem,List.length_append];try omega) (by simp(disch:=omega)only[go_sem])⟩
  ·have hcy0:cy=0:=by omega
   have hov2:vl out=((a+b:Nat):Int):=by
    rw[List.take_of_length_le (by omega),List.take_of_length_le (by omega),zq,zq,hcy0]at hov
    simp at hov;omega
   simp(disch:=omega)only[go_sem,h1,h2,h3]
   refine qD (yp true out (a+b) (by omega) hog hov2) (by simp(disch:=omega)only[go_sem]) ?_
   rintro r hs (⟨h0,rfl,rfl⟩|⟨zs,rfl,rfl⟩)
   ·refine⟨⟨by simp,by simp(disch:=omega)only[go_sem]⟩,?_⟩
    simp(disch:=omega)only[go_sem]
    refine qh [] [] [] [.ag [.v (.slice none 0 0)]] rfl (by simp(disch:=omega)only[go_sem]) (by simp(disch:=omega)only[go_sem]) (by simp) (by intro _;simp[zy,AV.pu,AV.pu.puL,Ob.pu,zi]) (.inl ⟨h0,rfl,rfl⟩)
   ·refine⟨⟨by simp,by simp(disch:=omega)only[go_sem]⟩,?_⟩
    simp(disch:=omega)only[go_sem]
    refine qh [(0,620000000)] [.own 1 (qe (lim (a+b)++zs))] [] [.ag [.rf 0 0 (lim (a+b)).length]] rfl (by simp(disch:=omega)only[go_sem]) (by simp(disch:=omega)only[go_sem]) (by simp) (by intro _;simp[zy,AV.pu,AV.pu.puL,Ob.pu,zi]) (.inr ⟨zs,rfl,rfl⟩)
end Go.Ab
namespace Go.Ab
open Go Go.Proofs
set_option maxRecDepth 100000 in
theorem amU(cl:Bool)(A:List Int)(hA:gd A)(b:Nat)(lA:A.length≤1000000)(lB:(lim b).length≤1000000)(m:Nat)(hm:vl A*(b:Int)=(m:Int)):
  Con Tryz.prog 313 cl [.ag [.sl A.length (qe A)],.ag [.sl (lim (b)).length (qe (lim (b)))]] [] (aQR m):=by
 refine Con.of_aw Tryz.func313 rfl Tryz.ntmps313 (by simp) (by simp) (by simp) (W.sound ?_)
 show @W Tryz.prog 80 ⟨_⟩ ⟨fun x σ=>@q8 _ _ _ ⟨_⟩ _ ⟨_⟩ x σ⟩ _ _
 have hvb:=zq b
 have hB:=zr b
 generalize lim b=B at*
 simp(disch:=omega)only[go_sem]
 refine⟨by omega,?_⟩
 refine qi (fun x:Nat×List Int=>[(2,.pt 0 0),(3,.pt 1 0),(4,.pt 2 0),(5,.rf 3 0 (A.length+B.length)),(6,.v (.int .i64 x.1))])
  (fun x=>[(0,.own 0 [.sl A.length (qe A)]),(1,.own 0 [.sl B.length (qe B)]),(2,.own 0 [.v (.slice none 0 0)]),(3,.own 1 (qe x.2))])
  (fun x=>x.1≤A.length∧x.2.length=A.length+B.length∧gd x.2∧vl x.2=vl (A.take x.1)*vl B∧∀j,x.1+B.length≤j→x.2.getD j 0=0)
  (fun x=>A.length-x.1) (0,List.replicate (A.length+B.length) 0) ⟨by simp,by simp,zA _,by simp[zZ,vl],fun j _=>by
   rw[List.getD_eq_getElem?_getD,List.getElem?_replicate];split<;>rfl⟩
  (Le.lst [(0,40000000),(1,50000000),(2,60000000),(3,190000000)] _ _ rfl (by simp(disch:=omega)only[go_sem];try omega) (by simp(disch:=omega)only[go_sem,show((A.length:Int)+(B.length:Int)).toNat=A.length+B.length by omega])) ?_
 rintro⟨i,out⟩ ⟨hi,hol,hog,hov,hoz⟩
 dsimp only at hi hol hog hov hoz ⊢
 simp(disch:=omega)only[go_sem]
 refine qg (fun h1=>?_) (fun h1=>?_)
 ·have hx:=qO hA i
  simp(disch:=omega)only[go_sem,h1]
  refine qi (fun x:Nat×List Int×Int=>[(2,.pt 0 0),(3,.pt 1 0),(4,.pt 2 0),(5,.rf 3 0 (A.length+B.length)),(6,.v (.int .i64 i)),(7,.v (.int .i64 x.2.2)),(8,.v (.int .i64 x.1))])
   (fun x=>[(0,.own 0 [.sl A.length (qe A)]),(1,.own 0 [.sl B.length (qe B)]),(2,.own 0 [.v (.slice none 0 0)]),(3,.own 1 (qe x.2.1))])
   (fun x=>x.1≤B.length∧x.2.1.length=A.length+B.length∧gd x.2.1∧(0≤x.2.2∧x.2.2<65536)∧vl x.2.1+65536^(i+x.1)*x.2.2=vl out+65536^i*(A.getD i 0*vl (B.take x.1))∧∀j,i+B.length≤j→x.2.1.getD j 0=0)
   (fun x=>B.length-x.1) (0,out,0) ⟨by simp,hol,hog,by simp,by simp[vl],hoz⟩
   (Le.lst [] _ _ rfl (by simp(disch:=omega)only[go_sem];try omega) (by simp(disch:=omega)only[go_sem])) ?_
  rintro⟨j,o2,cy⟩ ⟨hj,hol2,hog2,hcy,hov2,hoz2⟩
  dsimp only at hj hol2 hog2 hcy hov2 hoz2 ⊢
  simp(disch:=omega)only[go_sem]
  refine qg (fun h2=>?_) (fun h2=>?_)
  ·have hy:=qO hB j
   have ho:=qO hog2 (i+j)
   have hxy:=atb hx hy
   have e1:((i:Int)+(j:Int)).toNat=i+j:=by omega
   simp(disch:=omega)only[go_sem,h2]
   refine qv rfl [⟨0,[],[]⟩,⟨1,[],[]⟩,⟨2,[],[]⟩,⟨3,[],[]⟩,⟨4,[],[]⟩,⟨5,[],[]⟩,⟨6,[5],[]⟩,⟨7,[5],[]⟩,⟨8,[5,7],[]⟩,⟨9,[5],[]⟩,⟨10,[5],[]⟩,⟨11,[5,7,10],[]⟩,⟨12,[5,7,10],[]⟩,⟨13,[5,7,10,12],[]⟩,⟨14,[5,7,10],[]⟩,⟨15,[5,7,10],[]⟩,⟨16,[5],[]⟩,⟨17,[],[]⟩,⟨18,[5,7,10,12,15],[]⟩,⟨19,[],[]⟩,⟨20,[],[]⟩] (by kernel_rfl) ?_
   simp(disch:=omega)only[go_sem,e1]
   generalize hq:o2.getD (i+j) 0+A.getD i 0*B.getD j 0+cy=q
   refine⟨by omega,by omega,by omega,by omega,by omega,by omega,by omega,by omega,qb (j+1,o2.set (i+j) (q % 65536),q/65536) [] ⟨by show j+1≤_;omega,by simp[hol2],Ql hog2 (by omega),by show 0≤q/65536∧q/65536<65536;omega,?_,fun k hk=>?_⟩
    (by show B.length-(j+1)<B.length-j;omega) rfl (by simp(disch:=omega)only[go_sem];try omega) (by simp(disch:=omega)only[go_sem])⟩
   ·show vl (o2.set (i+j) (q % 65536))+65536^(i+(j+1))*(q/65536)=vl out+65536^i*(A.getD i 0*vl (B.take (j+1)))
    rw[Zw (by omega),jv (by omega),←Nat.add_assoc,Int.pow_succ]
    have e2:(65536:Int)^(i+j)=65536^i*65536^j:=Int.pow_add _ _ _
    have e3:q % 65536+65536*(q/65536)=q:=Int.emod_add_mul_ediv q 65536
    rw[e2]at hov2 ⊢
    generalize (65536:Int)^i=Pi at*
    generalize (65536:Int)^j=Pj at*
    grind
   ·show(o2.set (i+j) (q % 65536)).getD k 0=0
    rw[List.getD_eq_getElem?_getD,List.getElem?_set_ne (by omega),←List.getD_eq_getElem?_getD]
    exact hoz2 k hk
  ·simp(disch:=omega)only[go_sem,h2]
   have e1:((i:Int)+(B.length:Int)).toNat=i+B.length:=by omega
   have hjB:j=B.length:=by omega
   subst hjB
   rw[List.take_length]at hov2
   have hz:=hoz2 (i+B.length) (Nat.le_refl _)
   refine qv rfl [⟨0,[],[]⟩,⟨1,[],[]⟩,⟨2,[],[]⟩,⟨3,[],[]⟩,⟨4,[],[]⟩,⟨5,[],[]⟩,⟨6,[3],[]⟩,⟨7,[3],[]⟩,⟨8,[3],[]⟩,⟨9,[3],[]⟩,⟨10,[3],[]⟩,⟨11,[3],[]⟩,⟨12,[3],[]⟩,⟨13,[3],[]⟩,⟨14,[3,9,13],[]⟩,⟨15,[3],[]⟩,⟨16,[],[]⟩,⟨17,[],[]⟩] (by kernel_rfl) ?_
   simp(disch:=omega)only[go_sem,e1,hz]
   have e0:(0:Int)+cy=cy:=by omega
   refine⟨by omega,by omega,by omega,by omega,qb (i+1,o2.set (i+B.length) cy) [] ⟨by show i+1≤_;omega,by simp[hol2],Ql hog2 hcy,?_,fun k hk=>?_⟩ (by show A.length-(i+1)<A.length-i;omega) rfl (by simp(disch:=omega)only[go_sem];try omega) (by simp(disch:=omega)only[go_sem,e0])⟩
   ·show vl (o2.set (i+B.length) cy)=vl (A.take (i+1))*vl B
    rw[Zw (by omega),hz,jv (by omega)]
    generalize (65536:Int)^i=Pi at*
    grind
   ·show(o2.set (i+B.length) cy).getD k 0=0
    rw[List.getD_eq_getElem?_getD,List.getElem?_set_ne (by show i+B.length≠k;omega),←List.getD_eq_getElem?_getD]
    exact hoz2 k (by omega)
 ·simp(disch:=omega)only[go_sem,h1]
  have hiA:i=A.length:=by omega
  subst hiA
  rw[List.take_length,hvb,hm]at hov
  rw[←hol]
  refine qD (yp true (out) (m) (by omega) (hog) (hov)) (by simp(disch:=omega)only[go_sem]) ?_
  rintro r hs (⟨h0,rfl,rfl⟩|⟨zs,rfl,rfl⟩)
  ·refine⟨⟨by simp,by simp(disch:=omega)only[go_sem]⟩,?_⟩
   simp(disch:=omega)only[go_sem]
   refine qh [] [] [] [.ag [.v (.slice none 0 0)]] rfl (by simp(disch:=omega)only[go_sem]) (by simp(disch:=omega)only[go_sem]) (by simp) (by intro _;simp[zy,AV.pu,AV.pu.puL,Ob.pu,zi]) (.inl ⟨h0,rfl,rfl⟩)
  ·refine⟨⟨by simp,by simp(disch:=omega)only[go_sem]⟩,?_⟩
   simp(disch:=omega)only[go_sem]
   refine qh [(0,810000000)] [.own 1 (qe (lim (m)++zs))] [] [.ag [.rf 0 0 (lim (m)).length]] rfl (by simp(disch:=omega)only[go_sem]) (by simp(disch:=omega)only[go_sem]) (by simp) (by intro _;simp[zy,AV.pu,AV.pu.puL,Ob.pu,zi]) (.inr ⟨zs,rfl,rfl⟩)
end Go.Ab
namespace Go.Ab
open Go Go.Proofs
def aVZ(m:Nat)(r0:Int):AV→List Ob→List Ob→Prop:=fun r hs bs=>
 (m=0∧r=.tu [.ag [.v (.slice none 0 0)],.v (.int .i64 r0)]∧hs=[])∨∃zs,r=.tu [.ag [.rf 0 0 (lim m).length],.v (.int .i64 r0)]∧hs=[.own 1 (qe (lim m++zs))]
theorem Con.natF2{P:Program}{f:FuncId}{args:List AV}{m:Nat}{r0:Int}(h:Con P f false args [] (aVZ m r0)):Con P f false args [] (isA (.tu [.ag [.sl (lim (m)).length (qe (lim (m)))],.v (.int .i64 r0)])):=
 Con.frzA <| h.mono fun r hs bs h=>by
  rcases h with⟨rfl,rfl,rfl⟩|⟨zs,rfl,rfl⟩
  ·show qJ _ 6 _=_
   rw[qs];rfl
  ·show qJ _ 6 _=_
   rw[Y4,List.map_cons,List.map_cons,List.map_nil,afE,List.map_cons,List.map_nil,yw (k:=2) (l:=lim m) (zs:=zs) zl rfl]
   rfl
theorem abV(cl:Bool)(A:List Int)(d:Nat)(hA:gd A)(lA:A.length≤1000000)(hd:0<d)(hd2:d<65536)(m:Nat)(hm:vl A/(d:Int)=(m:Int)):
  Con Tryz.prog 300 cl [.ag [.sl A.length (qe A)],.v (.int .i64 d)] [] (aVZ m (vl A % d)):=by
 refine Con.of_aw Tryz.func300 rfl Tryz.ntmps300 (by simp) (by simp) (by simp) (W.sound ?_)
 show @W Tryz.prog 42 ⟨_⟩ ⟨fun x σ=>@q8 _ _ _ ⟨_⟩ _ ⟨_⟩ x σ⟩ _ _
 simp(disch:=omega)only[go_sem]
 refine⟨by omega,?_⟩
 refine qi (fun x:Nat×List Int×Int=>[(1,.v (.int .i64 d)),(2,.pt 0 0),(4,.pt 1 0),(6,.rf 2 0 A.length),(7,.v (.int .i64 x.2.2)),(8,.v (.int .i64 ((x.1:Int)-1)))])
  (fun x=>[(0,.own 0 [.sl A.length (qe A)]),(1,.own 0 [.v (.slice none 0 0)]),(2,.own 1 (qe x.2.1))])
  (fun x=>x.1≤A.length∧x.2.1.length=A.length∧gd x.2.1∧x.2.2=vl (A.drop x.1) % d∧vl (x.2.1.drop x.1)=vl (A.drop x.1)/d)
  (fun x=>x.1) (A.length,List.replicate A.length 0,0) ⟨Nat.le_refl _,by simp,zA _,by simp[vl],by simp[vl]⟩
  (Le.lst [(0,40000000),(1,60000000),(2,150000000)] _ _ rfl (by simp(disch:=omega)only[go_sem,List.length_replicate];try omega) (by simp(disch:=omega)only[go_sem])) ?_
 rintro⟨k,out,rest⟩ ⟨hk,hol,hog,hr,hov⟩
 dsimp only at hk hol hog hr hov ⊢
 have hr0:0≤rest∧rest<d:=by rw[hr];exact⟨Int.emod_nonneg _ (by omega),Int.emod_lt_of_pos _ (by omega)⟩
 simp(disch:=omega)only[go_sem]
 refine qg (fun h1=>?_) (fun h1=>?_)
 ·obtain⟨i,rfl⟩:∃i,k=i+1:=⟨k-1,by omega⟩
  have ei:((i+1:Nat):Int)-1=(i:Nat):=by omega
  have hx:=qO hA i
  have hq6:0≤(rest*65536+A.getD i 0)/d∧(rest*65536+A.getD i 0)/d<65536:=by
   refine⟨Int.ediv_nonneg (by omega) (by omega),Int.ediv_lt_of_lt_mul (by omega) ?_⟩
   have:rest+1≤(d:Int):=by omega
   have:=Int.mul_le_mul_of_nonneg_left this (show(0:Int)≤65536 by omega)
   omega
  simp(disch:=omega)only[go_sem,h1,ei]
  generalize hq:rest*65536+A.getD i 0=q at*
  refine⟨by omega,by omega,by omega,by omega,by omega,by omega,qb (i,out.set i (q/d),q % d) [] ⟨by show i≤_;omega,by simp[hol],Ql hog hq6,?_,?_⟩ (by show i<i+1;omega) rfl (by simp(disch:=omega)only[go_sem];try omega) (by simp(disch:=omega)only[go_sem])⟩
  ·show q % d=vl (A.drop i) % d
   rw[zN (l:=A) (i:=i) (by omega),←hq,hr]
   have h3:=Int.emod_add_mul_ediv (vl (A.drop (i+1))) d
   rw[show A.getD i 0+65536*vl (A.drop (i+1))=vl (A.drop (i+1)) % d*65536+A.getD i 0+d*(65536*(vl (A.drop (i+1))/d)) by grind,Int.add_mul_emod_self_left]
  ·show vl ((out.set i (q/d)).drop i)=vl (A.drop i)/d
   rw[drop_set (by omega),vl,hov,zN (l:=A) (i:=i) (by omega),←hq,hr]
   have h3:=Int.emod_add_mul_ediv (vl (A.drop (i+1))) d
   rw[show A.getD i 0+65536*vl (A.drop (i+1))=vl (A.drop (i+1)) % d*65536+A.getD i 0+d*(65536*(vl (A.drop (i+1))/d)) by grind,Int.add_mul_ediv_left _ _ (by omega)]
 ·simp(disch:=omega)only[go_sem,h1]
  have:k=0:=by omega
  subst this
  rw[List.drop_zero,List.drop_zero,hm]at hov
  rw[List.drop_zero]at hr
  rw[←hol]
  refine qD (yp true out m (by omega) hog hov) (by simp(disch:=omega)only[go_sem]) ?_
  rintro r hs (⟨h0,rfl,rfl⟩|⟨zs,rfl,rfl⟩)
  ·refine⟨⟨by simp,by simp(disch:=omega)only[go_sem]⟩,?_⟩
   simp(disch:=omega)only[go_sem]
   rw[hr]
   refine qh [] [] [] [.ag [.v (.slice none 0 0)],.v (.int .i64 (vl A % d))] rfl (by simp(disch:=omega)only[go_sem]) (by simp(disch:=omega)only[go_sem]) (by simp) (by intro _;simp[zy,AV.pu,AV.pu.puL,Ob.pu,zi]) (.inl ⟨h0,rfl,rfl⟩)
  ·refine⟨⟨by simp,by simp(disch:=omega)only[go_sem]⟩,?_⟩
   simp(disch:=omega)only[go_sem]
   rw[hr]
   refine qh [(0,420000000)] [.own 1 (qe (lim m++zs))] [] [.ag [.rf 0 0 (lim m).length],.v (.int .i64 (vl A % d))] rfl (by simp(disch:=omega)only[go_sem]) (by simp(disch:=omega)only[go_sem]) (by simp) (by intro _;simp[zy,AV.pu,AV.pu.puL,Ob.pu,zi]) (.inr ⟨zs,rfl,rfl⟩)
/-! ### Shifts-/
theorem asv{k:Nat}(hk:k<16):IntKind.i64.wrap (1*2^(min ((k:Int)).toNat 64))=((2^k:Nat):Int):=by
 have e:min ((k:Int)).toNat 64=k:=by omega
 rw[e,Int.one_mul]
 have h:=yS k hk
 rw[anz (by omega) (by omega),Int.natCast_pow];rfl
theorem auE(cl:Bool)(a k:Nat)(la:(lim a).length≤400000)(hk:k≤5000000):Con Tryz.prog 276 cl [.ag [.sl (lim (a)).length (qe (lim (a)))],.v (.int .i64 k)] [] (aQR (a*2^k)):=by
 refine Con.of_aw Tryz.func276 rfl Tryz.ntmps276 (by simp) (by simp) (by simp) (W.sound ?_)
 show @W Tryz.prog 22 ⟨_⟩ ⟨fun x σ=>@q8 _ _ _ ⟨_⟩ _ ⟨_⟩ x σ⟩ _ _
 have hz:((lim a).length:Int)=0→a=0:=fun h=>qK.1 (List.length_eq_zero_iff.1 (by omega))
 have hvA:=zq a
 have gA:=zr a
 generalize hLA:lim a=A at*
 simp(disch:=omega)only[go_sem]
 refine qg (fun h1=>?_) (fun h1=>?_)
 ·simp(disch:=omega)only[go_sem,h1]
  have h0:=hz h1
  subst h0
  refine qh [] [] [] [.ag [.v (.slice none 0 0)]] rfl (by simp(disch:=omega)only[go_sem]) (by simp(disch:=omega)only[go_sem]) (by simp) (by intro _;simp[zy,AV.pu,AV.pu.puL,Ob.pu,zi]) (.inl ⟨by simp,rfl,rfl⟩)
 ·simp(disch:=omega)only[go_sem,h1]
  refine qv rfl [⟨0,[],[]⟩,⟨1,[],[]⟩,⟨3,[],[]⟩,⟨4,[],[]⟩,⟨7,[4],[]⟩,⟨8,[4],[]⟩,⟨9,[4],[]⟩,⟨2,[4],[]⟩,⟨5,[],[]⟩,⟨6,[],[]⟩,⟨10,[],[]⟩,⟨11,[],[]⟩,⟨12,[],[]⟩] (by kernel_rfl) ?_
  have e16:((k:Int)/16).toNat=k/16:=by omega
  have e17:(k:Int) % 16=((k % 16:Nat):Int):=by omega
  have es:IntKind.i64.wrap (1*2^(min ((k:Int) % 16).toNat 64))=((2^(k % 16):Nat):Int):=by rw[e17];exact asv (by omega)
  have hp15:2^(k % 16)≤2^15:=Nat.pow_le_pow_right (by omega) (by omega)
  have ecut:(List.replicate (k/16) (0:Int)).take (k/16)=List.replicate (k/16) 0:=List.take_of_length_le (by simp)
  simp(disch:=omega)only[go_sem,e16,ecut,es]
  refine⟨by omega,by omega,by simp;omega,?_⟩
  refine qa ((XL false (2^(k % 16)) (by omega)).natF) ?_
  simp(disch:=omega)only[go_sem]
  have hvA2:vl (List.replicate (k/16) 0++A)*((2^(k % 16):Nat):Int)=((a*2^k:Nat):Int):=by
   rw[QH,zZ,hvA,List.length_replicate]
   have h2:a*2^k=65536^(k/16)*a*2^(k % 16):=by
    have:2^k=65536^(k/16)*2^(k % 16):=by rw[Jn,←Nat.pow_add,Nat.div_add_mod]
    rw[this];grind
   rw[h2,Int.natCast_mul,Int.natCast_mul,Int.natCast_pow]
   simp
  have gA2:gd (List.replicate (k/16) 0++A):=qP.2 ⟨zA _,gA⟩
  have lA2:(List.replicate (k/16) (0:Int)++A).length=k/16+A.length:=by simp
  have et:(List.replicate (k/16) (0:Int)++A).take (k/16+A.length)=List.replicate (k/16) 0++A:=List.take_of_length_le (by simp)
  have l2s:(lim (2^(k % 16))).length≤1000000:=by
   have:=qI (m:=2^(k % 16)) (B:=16) (zf.2 (by omega));omega
  refine qD (amU true (List.replicate (k/16) 0++A) gA2 (2^(k % 16)) (by omega) l2s (a*2^k) hvA2) (by simp(disch:=omega)only[go_sem,lA2,et]) ?_
  rintro r hs (⟨h0,rfl,rfl⟩|⟨zs,rfl,rfl⟩)
  ·refine⟨⟨by simp,by simp(disch:=omega)only[go_sem]⟩,?_⟩
   simp(disch:=omega)only[go_sem]
   refine qh [] [] [] [.ag [.v (.slice none 0 0)]] rfl (by simp(disch:=omega)only[go_sem]) (by simp(disch:=omega)only[go_sem]) (by simp) (by intro _;simp[zy,AV.pu,AV.pu.puL,Ob.pu,zi]) (.inl ⟨h0,rfl,rfl⟩)
  ·refine⟨⟨by simp,by simp(disch:=omega)only[go_sem]⟩,?_⟩
   simp(disch:=omega)only[go_sem]
   refine qh [(0,230000000)] [.own 1 (qe (lim (a*2^k)++zs))] [] [.ag [.rf 0 0 (lim (a*2^k)).length]] rfl (by simp(disch:=omega)only[go_sem]) (by simp(disch:=omega)only[go_sem]) (by simp) (by intro _;simp[zy,AV.pu,AV.pu.puL,Ob.pu,zi]) (.inr ⟨zs,rfl,rfl⟩)
end Go.Ab
namespace Go.Ab
open Go Go.Proofs
theorem auD(a k:Nat)(la:(lim a).length≤1000000)(hk:k≤100000000):Con Tryz.prog 255 false [.ag [.sl (lim (a)).length (qe (lim (a)))],.v (.int .i64 k)] [] (isA (.ag [.sl (lim (a/2^k)).length (qe (lim (a/2^k)))])):=by
 refine Con.frzA ?_
 refine Con.of_aw Tryz.func255 rfl Tryz.ntmps255 (by simp) (by simp) (by simp) (W.sound ?_)
 show @W Tryz.prog 28 ⟨_⟩ ⟨fun x σ=>@q8 _ _ _ ⟨_⟩ _ ⟨_⟩ x σ⟩ _ _
 simp(disch:=omega)only[go_sem]
 refine qg (fun h1=>?_) (fun h1=>?_)
 ·simp(disch:=omega)only[go_sem,h1]
  have h0:a/2^k=0:=by
   refine Nat.div_eq_of_lt (Nat.lt_of_lt_of_le (Jw a) ?_)
   rw[Jn];exact Nat.pow_le_pow_right (by omega) (by omega)
  rw[h0,qs]
  exact qp
 ·simp(disch:=omega)only[go_sem,h1]
  refine qv rfl [⟨0,[],[]⟩,⟨1,[],[]⟩,⟨2,[1],[]⟩,⟨3,[1],[]⟩,⟨4,[],[]⟩,⟨5,[],[]⟩,⟨6,[1,4],[]⟩,⟨7,[1,4],[]⟩,⟨8,[1,4],[]⟩,⟨13,[1,4],[]⟩,⟨9,[],[70000000]⟩,⟨10,[],[70000000]⟩,⟨11,[],[70000000]⟩,⟨12,[],[70000000]⟩,⟨14,[],[]⟩,⟨15,[],[]⟩] (by kernel_rfl) ?_
  have e16:((k:Int)/16).toNat=k/16:=by omega
  have e17:(k:Int) % 16=((k % 16:Nat):Int):=by omega
  have e18:(((lim a).length:Int)-(k:Int)/16).toNat=((lim a).drop (k/16)).length:=by simp;omega
  have es:IntKind.i64.wrap (1*2^(min ((k:Int) % 16).toNat 64))=((2^(k % 16):Nat):Int):=by rw[e17];exact asv (by omega)
  have hp15:2^(k % 16)≤2^15:=Nat.pow_le_pow_right (by omega) (by omega)
  have hp0:0<2^(k % 16):=Nat.pow_pos (by omega)
  have hvD:=agP (zr a) (i:=k/16) (by omega)
  have gD:=yV (zr a) (k/16)
  have hlD:((lim a).drop (k/16)).length≤1000000:=by simp;omega
  have hm:vl ((lim a).drop (k/16))/((2^(k % 16):Nat):Int)=((a/2^k:Nat):Int):=by
   rw[←hvD,zq]
   have:a/2^k=a/65536^(k/16)/2^(k % 16):=by rw[Nat.div_div_eq_div_mul,Jn,←Nat.pow_add,Nat.div_add_mod]
   rw[this,Int.natCast_ediv,Int.natCast_ediv,Int.natCast_pow 65536];rfl
  have et:((lim a).drop (k/16)).take ((lim a).drop (k/16)).length=(lim a).drop (k/16):=List.take_length
  simp(disch:=omega)only[go_sem,e16,e18,et,es]
  generalize (lim a).drop (k/16)=D at*
  refine⟨by omega,by omega,?_⟩
  refine qa ((abV false D (2^(k % 16)) gD hlD hp0 (by omega) (a/2^k) hm).natF2) ?_
  simp(disch:=omega)only[go_sem]
  exact qp
theorem aTI(a:Nat)(la:(lim a).length≤2^40):Con Tryz.prog 289 true [.ag [.sl (lim (a)).length (qe (lim (a)))]] [] (isA (.v (.int .i64 (bl a)))):=by
 refine Con.of_aw Tryz.func289 rfl Tryz.ntmps289 (by simp) (by simp) (by simp) (W.sound ?_)
 show @W Tryz.prog 29 ⟨_⟩ ⟨fun x σ=>@q8 _ _ _ ⟨_⟩ _ ⟨_⟩ x σ⟩ _ _
 simp(disch:=omega)only[go_sem]
 refine qg (fun h1=>?_) (fun h1=>?_)
 ·simp(disch:=omega)only[go_sem,h1]
  have:a=0:=qK.1 (List.length_eq_zero_iff.1 (by omega))
  subst this
  rw[y5]
  exact qB
 ·have hm:a≠0:=fun e=>by rw[e,qs]at h1;simp at h1
  have e2:(((lim a).length:Int)-1).toNat=(lim a).length-1:=by omega
  have ht:=Jx hm
  have hb:=au5 hm
  have eq:(lim a).getD ((lim a).length-1) 0=((a/65536^((lim a).length-1):Nat):Int):=by rw[jc,Nat.mod_eq_of_lt ht.2]
  generalize a/65536^((lim a).length-1)=q at*
  simp(disch:=omega)only[go_sem,h1,e2,eq]
  refine⟨by omega,by omega,?_⟩
  refine qi (fun x:Nat×Nat=>[(3,.v (.int .i64 x.1)),(4,.v (.int .i64 x.2))]) (fun _=>[]) (fun x=>x.1+bl x.2=bl a∧x.2<65536∧x.1≤2^45) (fun x=>x.2) (16*((lim a).length-1),q) ⟨hb.symm,ht.2,by show 16*((lim a).length-1)≤2^45;omega⟩ (Le.lst [] _ _ rfl (by simp(disch:=omega)only[go_sem];try omega) (by simp(disch:=omega)only[go_sem])) ?_
  rintro⟨n,x⟩ ⟨hn,hx,hn2⟩
  dsimp only at hn hx hn2 ⊢
  simp(disch:=omega)only[go_sem]
  refine qg (fun h2=>?_) (fun h2=>?_)
  ·simp(disch:=omega)only[go_sem,h2]
   have hd:=aK9 (x:=x) (by omega)
   have hp:=zf.2 (show x<2^16 by omega)
   refine qb (n+1,x/2) [] ⟨by show n+1+bl (x/2)=bl a;omega,by show x/2<65536;omega,?_⟩ (by show x/2<x;omega) rfl (by simp(disch:=omega)only[go_sem];try omega) (by simp(disch:=omega)only[go_sem])
   show n+1≤2^45
   have:=aci (m:=a)
   omega
  ·simp(disch:=omega)only[go_sem,h2]
   have:x=0:=by omega
   subst this
   rw[y5]at hn
   refine qz (by simp(disch:=omega)only[go_sem]) (by simp(disch:=omega)only[go_sem]) ⟨?_,rfl,rfl⟩
   simp[zy];omega
theorem abX(m:Nat)(i:Int)(hl:(lim m).length≤2^40)(hi:0≤i)(hi2:i<2^62):Con Tryz.prog 190 true [.ag [.sl (lim (m)).length (qe (lim (m)))],.v (.int .i64 i)] [] (isA (.v (.int .i64 ((m/2^i.toNat % 2:Nat):Int)))):=by
 refine Con.of_w (rs:=[.tmp 4]) Tryz.func190 rfl Tryz.ntmps190 rfl ?_
 obtain⟨k,rfl⟩:=Int.eq_ofNat_of_zero_le hi
 rw[Int.toNat_natCast]
 have h0:¬((k:Int)<0):=by omega
 have e16:((k:Int)/16).toNat=k/16:=by omega
 have em:min ((k:Int) % 16).toNat 64=k % 16:=by omega
 have hb:=au6 m k
 simp(disch:=omega)only[go_sem,h0]
 refine qg (fun h1=>?_) (fun h1=>?_)
 ·simp(disch:=omega)only[go_sem,h1]
  have:m/2^k % 2=0:=by
   rw[←hb]
   have h2:=jc m (k/16)
   rw[List.getD_eq_getElem?_getD,List.getElem?_eq_none (by omega)]at h2
   have h3:m/65536^(k/16) % 65536=0:=by simp only[Option.getD_none]at h2;omega
   rw[h3];simp
  rw[this]
  exact qB
 ·have hx:=qO (zr m) (k/16)
  have hp:(0:Int)<2^(k % 16):=Int.pow_pos (by omega)
  have efd:∀x:Int,x.fdiv (2^(k % 16))=x/2^(k % 16):=fun x=>Int.fdiv_eq_ediv_of_nonneg _ (Int.le_of_lt hp)
  have hq:0≤(lim m).getD (k/16) 0/2^(k % 16)∧(lim m).getD (k/16) 0/2^(k % 16)<65536:=by
   refine⟨Int.ediv_nonneg hx.1 (Int.le_of_lt hp),Int.lt_of_le_of_lt (Int.ediv_le_self _ hx.1) hx.2⟩
  have hr:(lim m).getD (k/16) 0/2^(k % 16) % 2=((m/2^k % 2:Nat):Int):=by
   rw[←hb,jc]
   generalize m/65536^(k/16) % 65536=x
   rw[Int.natCast_emod,Int.natCast_ediv,Int.natCast_pow];rfl
  simp(disch:=omega)only[go_sem,h1,e16,em,efd,hr]
  refine⟨by omega,by omega,by omega,?_⟩
  exact qB
theorem avE{m i:Nat}(hz:∀j,j<i→m/2^j % 2=0)(h1:m/2^i % 2=1):tz m=i:=by
 have key:∀k,k≤i→2^k*(m/2^k)=m:=by
  intro k
  induction k with
  |zero=>intro _;simp
  |succ k ih=>
   intro hk
   have h2:=ih (by omega)
   have h3:=hz k (by omega)
   have h4:m/2^(k+1)=m/2^k/2:=by rw[Nat.pow_succ,Nat.div_div_eq_div_mul]
   rw[h4,Nat.pow_succ,Nat.mul_assoc,show 2*(m/2^k/2)=m/2^k by omega];exact h2
 refine Z7 (a:=m/2^i/2) ?_
 have:=key i (Nat.le_refl _)
 rw[show 2*(m/2^i/2)+1=m/2^i by omega];exact this.symm
theorem agl(m:Nat)(hl:(lim m).length≤2^40):Con Tryz.prog 254 true [.ag [.sl (lim (m)).length (qe (lim (m)))]] [] (isA (.v (.int .i64 (tz m)))):=by
 refine Con.of_w (rs:=[.tmp 2]) Tryz.func254 rfl Tryz.ntmps254 rfl ?_
 simp(disch:=omega)only[go_sem]
 refine qi (fun i:Nat=>[(1,.pt 0 0),(3,.v (.int .i64 i))]) (fun _=>[(0,.own 0 [.sl (lim (m)).length (qe (lim (m)))])]) (fun i=>i≤16*(lim m).length∧∀j,j<i→m/2^j % 2=0) (fun i=>16*(lim m).length-i) 0 ⟨by omega,fun j hj=>by omega⟩ (Le.lst [(0,30000000)] _ _ rfl (by simp(disch:=omega)only[go_sem];try omega) (by simp(disch:=omega)only[go_sem])) ?_
 rintro i ⟨hi,hz⟩
 simp(disch:=omega)only[go_sem]
 refine qg (fun h1=>?_) (fun h1=>?_)
 ·simp(disch:=omega)only[go_sem,h1]
  refine ql (abX m i hl (by omega) (by omega)) ?_
  simp(disch:=omega)only[go_sem]
  refine qg (fun h2=>?_) (fun h2=>?_)
  ·simp(disch:=omega)only[go_sem,h2]
   have:=avE hz (by omega)
   rw[this]
   exact qB
  ·simp(disch:=omega)only[go_sem,h2]
   refine qb (i+1) [] ⟨by omega,fun j hj=>?_⟩ (by show 16*(lim m).length-(i+1)<16*(lim m).length-i;omega) rfl (by simp(disch:=omega)only[go_sem];try omega) (by simp(disch:=omega)only[go_sem])
   rcases(by omega:j<i∨j=i)with h|h
   ·exact hz j h
   ·subst h;omega
 ·simp(disch:=omega)only[go_sem,h1]
  have hm:m=0:=by
   have h3:=aci (m:=m)
   rcases Nat.eq_zero_or_pos m with h|h
   ·exact h
   ·have h4:=yv (n:=m) (by omega)
    have h5:=(QR (n:=m) (by omega)).1
    have:=hz (tz m) (by omega)
    omega
  subst hm
  rw[anC]
  exact qB
end Go.Ab
namespace Go.Ab
open Go Go.Proofs
theorem aWc(m:Nat):decide ((0:Int)<((lim m).length:Int))=decide (m≠0):=by
 rw[decide_eq_decide]
 exact⟨fun h e=>by rw[e,qs]at h;simp at h,fun h=>by have:=QT h;omega⟩
theorem JV(m:Nat)(hl:(lim m).length≤2^39):Con Tryz.prog 284 false [.sl (lim (m)).length (qe (lim (m)))] [] (isA (.ag [.sl (lim (m)).length (qe (lim (m)))])):=(yp false (lim m) m hl (zr m) (zq m)).natF
theorem JU(n:Nat)(hn:n<2^63):Con Tryz.prog 257 false [.v (.int .i64 n)] [] (isA (.ag [.sl (lim (n)).length (qe (lim (n)))])):=(XL false n hn).natF
theorem amW(a b:Nat)(la:(lim a).length≤2000000)(lb:(lim b).length≤2000000):Con Tryz.prog 256 false [.ag [.sl (lim (a)).length (qe (lim (a)))],.ag [.sl (lim (b)).length (qe (lim (b)))]] [] (isA (.ag [.sl (lim (a+b)).length (qe (lim (a+b)))])):=(auF false a b la lb).natF
theorem YM(a k:Nat)(la:(lim a).length≤400000)(hk:k≤5000000):Con Tryz.prog 276 false [.ag [.sl (lim (a)).length (qe (lim (a)))],.v (.int .i64 k)] [] (isA (.ag [.sl (lim (a*2^k)).length (qe (lim (a*2^k)))])):=(auE false a k la hk).natF
theorem jO(s:Bool)(m:Nat)(hl:(lim m).length≤2^39):Con Tryz.prog 221 false [.v (.bool s),.ag [.sl (lim (m)).length (qe (lim (m)))]] [] (isA (.ag [.v (.bool (s&&decide (m≠0))),.sl (lim (m)).length (qe (lim (m)))])):=by
 refine Con.frzA ?_
 refine Con.of_w (rs:=[.cell 4 40]) Tryz.func221 rfl Tryz.ntmps221 rfl ?_
 simp(disch:=omega)only[go_sem]
 refine qv rfl [⟨0,[],[]⟩,⟨1,[],[]⟩,⟨2,[],[]⟩,⟨3,[],[]⟩,⟨4,[],[]⟩,⟨5,[],[]⟩,⟨6,[],[]⟩,⟨7,[3],[]⟩,⟨8,[3],[]⟩,⟨9,[3],[]⟩,⟨10,[],[]⟩,⟨11,[],[]⟩] (by kernel_rfl) ?_
 simp(disch:=omega)only[go_sem]
 refine QA (fun h1=>?_) (fun h1=>?_)
 ·simp(disch:=omega)only[go_sem,h1,aWc]
  refine qa (JV m hl) ?_
  simp(disch:=omega)only[go_sem]
  exact qp (hp:=by simp(disch:=omega)only[go_sem,h1,Bool.true_and])
 ·simp(disch:=omega)only[go_sem,h1]
  refine qa (JV m hl) ?_
  simp(disch:=omega)only[go_sem]
  exact qp (hp:=by simp(disch:=omega)only[go_sem,h1,Bool.false_and])
theorem XK(n:Int)(h: -9223372036854775808≤n∧n<9223372036854775808):Con Tryz.prog 174 false [.v (.int .i64 n)] [] (isA (.ag [.v (.bool (decide (n<0))),.sl (lim (n.natAbs)).length (qe (lim (n.natAbs)))])):=by
 refine Con.frzA ?_
 refine Con.of_aw Tryz.func174 rfl Tryz.ntmps174 (by simp) (by simp) (by simp) (W.sound ?_)
 show @W Tryz.prog 15 ⟨_⟩ ⟨fun x σ=>@q8 _ _ _ ⟨_⟩ _ ⟨_⟩ x σ⟩ _ _
 simp(disch:=omega)only[go_sem]
 refine qg (fun h1=>?_) (fun h1=>?_)
 ·simp(disch:=omega)only[go_sem,h1]
  have e1:0-(n+1)=(((0-(n+1)).toNat:Nat):Int):=by omega
  refine qa (JU (0-(n+1)).toNat (by omega)) ?_ (by simp(disch:=omega)only[go_sem,←e1])
  simp(disch:=omega)only[go_sem]
  refine qa (JU 1 (by omega)) ?_
  simp(disch:=omega)only[go_sem]
  have l1:=qI (m:=(0-(n+1)).toNat) (B:=64) (zf.2 (by omega))
  have l2:=qI (m:=1) (B:=64) (by decide)
  refine qa (amW (0-(n+1)).toNat 1 (by omega) (by omega)) ?_
  simp(disch:=omega)only[go_sem]
  have e2:(0-(n+1)).toNat+1=n.natAbs:=by omega
  have l3:=qI (m:=(0-(n+1)).toNat+1) (B:=64) (zf.2 (by omega))
  refine qa (jO true ((0-(n+1)).toNat+1) (by omega)) ?_
  simp(disch:=omega)only[go_sem]
  refine qV (by simp(disch:=omega)only[go_sem]) ?_
  show qJ _ 6 _=_
  have e3:decide (n.natAbs≠0)=true:=by simp;omega
  rw[e2]
  simp(disch:=omega)only[go_sem,e3,h1,Bool.true_and]
 ·simp(disch:=omega)only[go_sem,h1]
  have e1:n=((n.natAbs:Nat):Int):=by omega
  refine qa (JU n.natAbs (by omega)) ?_ (by simp(disch:=omega)only[go_sem,←e1])
  simp(disch:=omega)only[go_sem]
  have l3:=qI (m:=n.natAbs) (B:=64) (zf.2 (by omega))
  refine qa (jO false n.natAbs (by omega)) ?_
  simp(disch:=omega)only[go_sem]
  exact qp (hp:=by simp(disch:=omega)only[go_sem,h1,Bool.false_and])
theorem Zu(s:Bool)(m:Nat)(e:Int)(hm:bl m≤8000000)(he: -2^40≤e∧e≤2^40):Con Tryz.prog 173 false [.ag [.v (.bool (s)),.sl (lim (m)).length (qe (lim (m)))],.v (.int .i64 e)] [] (isA (.ag [.v (.bool (oS s m)),.sl (lim (oM m)).length (qe (lim (oM m))),.v (.int .i64 (oE m e))])):=by
 refine Con.frzA ?_
 refine Con.of_aw Tryz.func173 rfl Tryz.ntmps173 (by simp) (by simp) (by simp) (W.sound ?_)
 show @W Tryz.prog 26 ⟨_⟩ ⟨fun x σ=>@q8 _ _ _ ⟨_⟩ _ ⟨_⟩ x σ⟩ _ _
 simp(disch:=omega)only[go_sem]
 have hl:=qI hm
 refine qg (fun h1=>?_) (fun h1=>?_)
 ·simp(disch:=omega)only[go_sem,h1]
  have h0:m=0:=qK.1 (List.length_eq_zero_iff.1 (by omega))
  subst h0
  refine qV (by simp(disch:=omega)only[go_sem]) ?_
  show qJ _ 6 _=_
  simp only[oS,Jt,oE,qs,if_true]
  simp(disch:=omega)only[go_sem]
 ·have h0:m≠0:=fun e=>h1 (by rw[e,qs];rfl)
  have ht:=yv h0
  simp(disch:=omega)only[go_sem,h1]
  refine ql (agl m (by omega)) ?_
  simp(disch:=omega)only[go_sem]
  refine qv rfl [⟨0,[],[]⟩,⟨1,[],[]⟩,⟨2,[1],[]⟩,⟨3,[1],[]⟩,⟨4,[1,3],[]⟩,⟨7,[1,3],[]⟩,⟨8,[1,3],[]⟩,⟨9,[1,3],[]⟩,⟨5,[1],[]⟩,⟨6,[],[]⟩,⟨10,[],[]⟩,⟨11,[],[]⟩] (by kernel_rfl) ?_
  simp(disch:=omega)only[go_sem]
  refine qa (auD m (tz m) (by omega) (by omega)) ?_
  simp(disch:=omega)only[go_sem]
  have l3:=qI (Nat.le_trans (Z5 m (2^tz m)) hm)
  refine qa (jO s (m/2^tz m) (by omega)) ?_
  simp(disch:=omega)only[go_sem]
  refine qV (by simp(disch:=omega)only[go_sem]) ?_
  show qJ _ 6 _=_
  have h3:decide (m/2^tz m≠0)=true:=by
   have:=(QR h0).1
   simp only[decide_eq_true_eq];omega
  simp only[oS,oM,oE,if_neg h0]
  simp(disch:=omega)only[go_sem,h3,Bool.and_true]
end Go.Ab
namespace Go.Ab
open Go Go.Proofs
theorem abW(a b:Nat)(la:(lim a).length≤2^40)(lb:(lim b).length≤2^40):
  Con Tryz.prog 277 true [.ag [.sl (lim (a)).length (qe (lim (a)))],.ag [.sl (lim (b)).length (qe (lim (b)))]] [] (isA (.v (.int .i64 (zD a b)))):=by
 refine Con.of_w (rs:=[.tmp 4]) Tryz.func277 rfl Tryz.ntmps277 rfl ?_
 simp(disch:=omega)only[go_sem]
 refine zO (fun h1=>?_) (fun h1=>?_)
 ·simp(disch:=omega)only[go_sem,h1]
  refine qg (fun h2=>?_) (fun h2=>?_)
  ·simp(disch:=omega)only[go_sem,h2]
   have:=QU (a:=a) (b:=b) (by omega)
   rw[show zD (a:Int) (b:Int)= -1 by unfold zD;rw[if_pos (by omega)]]
   exact qB
  ·simp(disch:=omega)only[go_sem,h2]
   have:=QU (a:=b) (b:=a) (by omega)
   rw[show zD (a:Int) (b:Int)=1 by unfold zD;rw[if_neg (by omega),if_pos (by omega)]]
   exact qB
 ·simp(disch:=omega)only[go_sem,h1]
  have hl:(lim a).length=(lim b).length:=by omega
  refine qi (fun k:Nat=>[(2,.pt 40000000 0),(3,.pt 50000000 0),(5,.v (.int .i64 ((k:Int)-1)))])
   (fun _=>[(40000000,.own 0 [.sl (lim (a)).length (qe (lim (a)))]),(50000000,.own 0 [.sl (lim (b)).length (qe (lim (b)))])]) (fun k=>k≤(lim a).length∧(lim a).drop k=(lim b).drop k) (fun k=>k) (lim a).length ⟨Nat.le_refl _,by rw[List.drop_length,hl,List.drop_length]⟩ (Le.lst [] _ _ rfl (by simp(disch:=omega)only[go_sem];try omega) (by simp(disch:=omega)only[go_sem])) ?_
  rintro k ⟨hk,hd⟩
  simp(disch:=omega)only[go_sem]
  refine qg (fun h2=>?_) (fun h2=>?_)
  ·obtain⟨i,rfl⟩:∃i,k=i+1:=⟨k-1,by omega⟩
   have ei:((i+1:Nat):Int)-1=(i:Nat):=by omega
   have hva:=zq a
   have hvb:=zq b
   simp(disch:=omega)only[go_sem,h2,ei]
   refine qv rfl [⟨0,[],[]⟩,⟨1,[],[]⟩,⟨2,[1],[]⟩,⟨3,[],[]⟩,⟨4,[],[]⟩,⟨5,[1,4],[]⟩,⟨6,[1,4],[]⟩,⟨7,[1,4,6],[]⟩,⟨8,[1,4],[]⟩,⟨9,[1,4],[]⟩,⟨10,[],[]⟩] (by kernel_rfl) ?_
   simp(disch:=omega)only[go_sem,ei]
   refine⟨by omega,by omega,by omega,by omega,?_⟩
   refine qg (fun h3=>?_) (fun h3=>?_)
   ·simp(disch:=omega)only[go_sem,h3]
    have:=ZU (zr a) (zr b) (by omega) hl hd h3
    rw[show zD (a:Int) (b:Int)= -1 by unfold zD;rw[if_pos (by omega)]]
    exact qB
   ·simp(disch:=omega)only[go_sem,h3]
    refine qv rfl [⟨0,[],[]⟩,⟨1,[],[]⟩,⟨2,[1],[]⟩,⟨3,[],[]⟩,⟨4,[],[]⟩,⟨5,[1,4],[]⟩,⟨6,[1,4],[]⟩,⟨7,[1,4,6],[]⟩,⟨8,[1,4],[]⟩,⟨9,[1,4],[]⟩,⟨10,[],[]⟩] (by kernel_rfl) ?_
    simp(disch:=omega)only[go_sem,ei]
    refine⟨by omega,by omega,by omega,by omega,?_⟩
    refine qg (fun h4=>?_) (fun h4=>?_)
    ·simp(disch:=omega)only[go_sem,h4]
     have:=ZU (zr b) (zr a) (by omega) hl.symm hd.symm h4
     rw[show zD (a:Int) (b:Int)=1 by unfold zD;rw[if_neg (by omega),if_pos (by omega)]]
     exact qB
    ·simp(disch:=omega)only[go_sem,h4]
     refine qb i [] ⟨by omega,?_⟩ (by show i<i+1;omega) rfl (by simp(disch:=omega)only[go_sem];try omega) (by simp(disch:=omega)only[go_sem])
     have h5:(lim a).getD i 0=(lim b).getD i 0:=by omega
     rw[yY (l:=lim a) (by omega),yY (l:=lim b) (by omega),h5,hd]
  ·simp(disch:=omega)only[go_sem,h2]
   have:k=0:=by omega
   subst this
   rw[List.drop_zero,List.drop_zero]at hd
   have:=Qz hd
   subst this
   rw[show zD (a:Int) (a:Int)=0 by simp[zD]]
   exact qB
end Go.Ab
namespace Go.Ab
open Go Go.Proofs
def alF(m1:Nat)(e1:Int)(m2:Nat)(e2:Int):Int:=if m1=0 then e2 else if m2=0 then e1 else if e1≤e2 then e1 else e2
theorem agk(s1:Bool)(m1:Nat)(e1:Int)(s2:Bool)(m2:Nat)(e2:Int)(h1:bl m1≤4000000)(h2:bl m2≤4000000)(he1: -1000000≤e1∧e1≤1000000)(he2: -1000000≤e2∧e2≤1000000)(z1:m1=0→s1=false)(z2:m2=0→s2=false):
  Con Tryz.prog 209 false [.ag [.v (.bool (s1)),.sl (lim (m1)).length (qe (lim (m1))),.v (.int .i64 (e1))],.ag [.v (.bool (s2)),.sl (lim (m2)).length (qe (lim (m2))),.v (.int .i64 (e2))]] [] (isA (.tu [.ag [.v (.bool (s1)),.sl (lim (alA m1 e1 (alE m1 e1 m2 e2))).length (qe (lim (alA m1 e1 (alE m1 e1 m2 e2))))],.ag [.v (.bool (s2)),.sl (lim (alA m2 e2 (alE m1 e1 m2 e2))).length (qe (lim (alA m2 e2 (alE m1 e1 m2 e2))))],.v (.int .i64 (alF m1 e1 m2 e2))])):=by
 refine Con.frzA ?_
 have l1:=qI h1
 have l2:=qI h2
 refine Con.of_aw Tryz.func209 rfl Tryz.ntmps209 (by simp) (by simp) (by simp) (W.sound ?_)
 show @W Tryz.prog 70 ⟨_⟩ ⟨fun x σ=>@q8 _ _ _ ⟨_⟩ _ ⟨_⟩ x σ⟩ _ _
 simp(disch:=omega)only[go_sem]
 refine qg (fun c1=>?_) (fun c1=>?_)
 ·have y1:m1=0:=qK.1 (List.length_eq_zero_iff.1 (by omega))
  have eF:alF m1 e1 m2 e2=e2:=by unfold alF;rw[if_pos y1]
  have a1:alA m1 e1 (alE m1 e1 m2 e2)=m1:=by rw[y1];unfold alA;rw[Nat.zero_mul]
  have a2:alA m2 e2 (alE m1 e1 m2 e2)=m2:=by
   by_cases y2:m2=0
   ·rw[y2];unfold alA;rw[Nat.zero_mul]
   ·unfold alA alE;rw[if_neg y2,if_pos y1,Int.sub_self];simp
  simp(disch:=omega)only[go_sem,c1]
  refine qv rfl [⟨0,[],[]⟩,⟨1,[],[]⟩,⟨2,[1],[]⟩,⟨3,[1],[]⟩,⟨4,[1,3],[]⟩,⟨5,[1,3],[]⟩,⟨6,[3,5],[]⟩,⟨7,[5],[]⟩,⟨8,[],[]⟩] (by kernel_rfl) ?_
  simp(disch:=omega)only[go_sem]
  refine qV (by simp(disch:=omega)only[go_sem]) ?_
  show qJ _ 6 _=_
  rw[eF,a1,a2]
  simp(disch:=omega)only[go_sem]
 ·have y1:m1≠0:=fun e=>c1 (by rw[e,qs];rfl)
  simp(disch:=omega)only[go_sem,c1]
  refine qg (fun c2=>?_) (fun c2=>?_)
  ·have y2:m2=0:=qK.1 (List.length_eq_zero_iff.1 (by omega))
   have eF:alF m1 e1 m2 e2=e1:=by unfold alF;rw[if_neg y1,if_pos y2]
   have a1:alA m1 e1 (alE m1 e1 m2 e2)=m1:=by unfold alA alE;rw[if_pos y2,Int.sub_self];simp
   have a2:alA m2 e2 (alE m1 e1 m2 e2)=m2:=by rw[y2];unfold alA;rw[Nat.zero_mul]
   simp(disch:=omega)only[go_sem,c2]
   refine qv rfl [⟨0,[],[]⟩,⟨1,[],[]⟩,⟨2,[1],[]⟩,⟨3,[1],[]⟩,⟨4,[1,3],[]⟩,⟨5,[1,3],[]⟩,⟨6,[3,5],[]⟩,⟨7,[5],[]⟩,⟨8,[],[]⟩] (by kernel_rfl) ?_
   simp(disch:=omega)only[go_sem]
   refine qV (by simp(disch:=omega)only[go_sem]) ?_
   show qJ _ 6 _=_
   rw[eF,a1,a2]
   simp(disch:=omega)only[go_sem]
  ·have y2:m2≠0:=fun e=>c2 (by rw[e,qs];rfl)
   simp(disch:=omega)only[go_sem,c2]
   refine qg (fun c3=>?_) (fun c3=>?_)
   ·have eF:alF m1 e1 m2 e2=e1:=by unfold alF;rw[if_neg y1,if_neg y2,if_pos c3]
    have eE:alE m1 e1 m2 e2=e1:=by unfold alE;rw[if_neg y2,if_neg y1,if_neg (by omega)]
    have a1:alA m1 e1 (alE m1 e1 m2 e2)=m1:=by rw[eE];unfold alA;rw[Int.sub_self];simp
    have ek:e2-e1=(((e2-e1).toNat:Nat):Int):=by omega
    have hb:bl (m2*2^(e2-e1).toNat)≤6000000:=by have:=Yj m2 (e2-e1).toNat;omega
    have l3:=qI hb
    have hn:m2*2^(e2-e1).toNat≠0:=Nat.mul_ne_zero y2 (Nat.pos_iff_ne_zero.1 (Nat.pow_pos (by omega)))
    have hd:decide (m2*2^(e2-e1).toNat≠0)=true:=decide_eq_true hn
    simp(disch:=omega)only[go_sem,c3]
    refine qv rfl [⟨0,[],[]⟩,⟨1,[],[]⟩,⟨2,[1],[]⟩,⟨3,[1],[]⟩,⟨4,[1],[]⟩,⟨5,[1,4],[]⟩,⟨6,[1,4],[]⟩,⟨7,[1,4],[]⟩,⟨8,[1,4,7],[]⟩,⟨9,[1,4,7],[]⟩,⟨10,[1,4,7,9],[]⟩,⟨11,[1,4,7,9],[]⟩,⟨12,[1,4,7],[]⟩,⟨15,[1,4,7,9,11],[]⟩,⟨16,[1,4,7,9,11],[]⟩,⟨13,[1,4,16],[]⟩,⟨14,[1,16],[]⟩,⟨17,[16],[]⟩,⟨18,[16],[]⟩,⟨19,[],[]⟩] (by kernel_rfl) ?_
    simp(disch:=omega)only[go_sem]
    refine zk (YM m2 (e2-e1).toNat (by omega) (by omega)) (by simp(disch:=omega)only[go_sem,←ek]) ?_
    rintro r hs ⟨rfl,rfl,_⟩
    refine⟨by simp[qR],?_⟩
    simp(disch:=omega)only[go_sem]
    refine qa (jO s2 (m2*2^(e2-e1).toNat) (by omega)) ?_
    simp(disch:=omega)only[go_sem]
    refine qV (by simp(disch:=omega)only[go_sem]) ?_
    show qJ _ 6 _=_
    rw[eF,a1,eE,hd];unfold alA
    simp(disch:=omega)only[go_sem,Bool.and_true]
   ·have eF:alF m1 e1 m2 e2=e2:=by unfold alF;rw[if_neg y1,if_neg y2,if_neg c3]
    have eE:alE m1 e1 m2 e2=e2:=by unfold alE;rw[if_neg y2,if_neg y1,if_pos (by omega)]
    have a2:alA m2 e2 (alE m1 e1 m2 e2)=m2:=by rw[eE];unfold alA;rw[Int.sub_self];simp
    have ek:e1-e2=(((e1-e2).toNat:Nat):Int):=by omega
    have hb:bl (m1*2^(e1-e2).toNat)≤6000000:=by have:=Yj m1 (e1-e2).toNat;omega
    have l3:=qI hb
    have hn:m1*2^(e1-e2).toNat≠0:=Nat.mul_ne_zero y1 (Nat.pos_iff_ne_zero.1 (Nat.pow_pos (by omega)))
    have hd:decide (m1*2^(e1-e2).toNat≠0)=true:=decide_eq_true hn
    simp(disch:=omega)only[go_sem,c3]
    refine qv rfl [⟨0,[],[]⟩,⟨1,[],[]⟩,⟨2,[],[]⟩,⟨3,[2],[]⟩,⟨4,[2],[]⟩,⟨5,[2],[]⟩,⟨6,[2,5],[]⟩,⟨7,[2,5],[]⟩,⟨8,[2,5,7],[]⟩,⟨9,[2,5,7],[]⟩,⟨10,[2,5],[]⟩,⟨13,[2,5,7,9],[]⟩,⟨14,[2,5,7,9],[]⟩,⟨15,[2,5,7,9,14],[]⟩,⟨16,[2,5,7,9,14],[]⟩,⟨11,[2,14,16],[]⟩,⟨12,[14,16],[]⟩,⟨17,[14,16],[]⟩,⟨18,[16],[]⟩,⟨19,[],[]⟩] (by kernel_rfl) ?_
    simp(disch:=omega)only[go_sem]
    refine zk (YM m1 (e1-e2).toNat (by omega) (by omega)) (by simp(disch:=omega)only[go_sem,←ek]) ?_
    rintro r hs ⟨rfl,rfl,_⟩
    refine⟨by simp[qR],?_⟩
    simp(disch:=omega)only[go_sem]
    refine qa (jO s1 (m1*2^(e1-e2).toNat) (by omega)) ?_
    simp(disch:=omega)only[go_sem]
    refine qV (by simp(disch:=omega)only[go_sem]) ?_
    show qJ _ 6 _=_
    rw[eF,a2,eE,hd];unfold alA
    simp(disch:=omega)only[go_sem,Bool.and_true]
end Go.Ab
namespace Go.Ab
open Go Go.Proofs
def srM(s:Bool)(m:Nat)(e low mode:Int):Nat:=oM (roM s m e low mode)
def srE(s:Bool)(m:Nat)(e low mode:Int):Int:=if low≤e∨m=0 then e else oE (roM s m e low mode) low
end Go.Ab
namespace Go.Ab
open Go Go.Proofs
end Go.Ab
namespace Go.Ab
open Go Go.Proofs
theorem amL(xs:List Int)(hl:xs.length≤2^40):Con Tryz.prog 253 true [.ag [.sl xs.length (qe xs)]] [] (isA (.v (.bool (Xh xs)))):=by
 refine Con.of_aw Tryz.func253 rfl Tryz.ntmps253 (by simp) (by simp) (by simp) (W.sound ?_)
 show @W Tryz.prog 44 ⟨_⟩ ⟨fun x σ=>@q8 _ _ _ ⟨_⟩ _ ⟨_⟩ x σ⟩ _ _
 simp(disch:=omega)only[go_sem]
 refine qg (fun h1=>?_) (fun h1=>?_)
 ·simp(disch:=omega)only[go_sem,h1]
  refine qz (by simp(disch:=omega)only[go_sem]) (by simp(disch:=omega)only[go_sem]) ⟨?_,rfl,rfl⟩
  have:¬(xs.length≤100):=by omega
  simp[zy,Xh,this]
 ·simp(disch:=omega)only[go_sem,h1]
  refine qi (fun i:Nat=>[(1,.pt 30000000 0),(2,.v (.bool false)),(3,.v (.int .i64 i))]) (fun _=>[(30000000,.own 0 [.sl xs.length (qe xs)])]) (fun i=>i≤xs.length∧∀x∈xs.take i,0≤x∧x≤65535) (fun i=>xs.length-i) 0 ⟨by omega,by simp⟩
   (Le.lst [] _ _ rfl (by simp(disch:=omega)only[go_sem]) (by simp(disch:=omega)only[go_sem])) ?_
  rintro i ⟨hi,hx⟩
  simp(disch:=omega)only[go_sem]
  refine qg (fun h2=>?_) (fun h2=>?_)
  ·simp(disch:=omega)only[go_sem,h2]
   have hmem:xs.getD i 0∈xs:=by
    rw[List.getD_eq_getElem?_getD,List.getElem?_eq_getElem (by omega)];exact List.getElem_mem _
   have bad:¬(0≤xs.getD i 0∧xs.getD i 0≤65535)→Xh xs=false:=by
    intro hc
    unfold Xh
    have:xs.all (fun x=>decide (0≤x)&&decide (x≤65535))=false:=by
     rw[List.all_eq_false]
     refine⟨_,hmem,?_⟩
     simp only[Bool.and_eq_true,decide_eq_true_eq];exact hc
    rw[this];simp
   refine⟨by omega,by omega,?_⟩
   refine zO (fun h3=>?_) (fun h3=>?_)
   ·simp(disch:=omega)only[go_sem,h3]
    refine⟨by omega,by omega,?_⟩
    refine qg (fun h4=>?_) (fun h4=>?_)
    ·simp(disch:=omega)only[go_sem,h4]
     rw[bad (by omega)]
     exact qB
    ·simp(disch:=omega)only[go_sem,h4]
     refine qb (i+1) [] ⟨by omega,?_⟩ (by show xs.length-(i+1)<xs.length-i;omega) rfl (by simp(disch:=omega)only[go_sem];try omega) (by simp(disch:=omega)only[go_sem])
     intro x hxx
     rw[List.take_add_one]at hxx
     rcases List.mem_append.1 hxx with h|h
     ·exact hx x h
     ·rw[List.getElem?_eq_getElem (by omega)]at h
      simp at h
      rw[List.getD_eq_getElem?_getD,List.getElem?_eq_getElem (by omega)]at h3 h4
      simp at h3 h4
      subst h
      omega
   ·simp(disch:=omega)only[go_sem,h3]
    rw[bad (by omega)]
    exact qB
  ·have:i=xs.length:=by omega
   subst this
   rw[List.take_length]at hx
   have hall:xs.all (fun x=>decide (0≤x)&&decide (x≤65535))=true:=by
    rw[List.all_eq_true]
    intro x h;have:=hx x h;simp only[Bool.and_eq_true,decide_eq_true_eq];exact this
   have e1:decide (xs.length≤100)=true:=by simp;omega
   simp(disch:=omega)only[go_sem,h2]
   refine zO (fun h3=>?_) (fun h3=>?_)
   ·have en:((xs.length:Int)-1).toNat=xs.length-1:=by omega
    have hmem:xs.getD (xs.length-1) 0∈xs:=by
     rw[List.getD_eq_getElem?_getD,List.getElem?_eq_getElem (by omega)];exact List.getElem_mem _
    have hp:=hx _ hmem
    simp(disch:=omega)only[go_sem,h3,en]
    refine⟨by omega,by omega,?_⟩
    refine qz (by simp(disch:=omega)only[go_sem]) (by simp(disch:=omega)only[go_sem]) ⟨?_,rfl,rfl⟩
    have e2:decide (xs.length=0)=false:=by simp;intro h;subst h;simp at h3
    show AV.v (.bool _)=AV.v (.bool _)
    unfold Xh
    rw[e1,hall,e2,Bool.false_or,Bool.true_and,Bool.true_and]
    congr 2
    rw[decide_eq_decide]
    omega
   ·simp(disch:=omega)only[go_sem,h3]
    refine qz (by simp(disch:=omega)only[go_sem]) (by simp(disch:=omega)only[go_sem]) ⟨?_,rfl,rfl⟩
    have e2:decide (xs.length=0)=true:=by simp;exact List.length_eq_zero_iff.1 (by omega)
    show AV.v (.bool _)=AV.v (.bool _)
    unfold Xh
    rw[e1,hall,e2]
    simp
theorem ZD(s:Bool)(xs:List Int)(hl:xs.length≤2^40):Con Tryz.prog 170 true [.ag [.v (.bool s),.sl xs.length (qe xs)]] [] (isA (.v (.bool (zY s xs)))):=by
 refine Con.of_aw Tryz.func170 rfl Tryz.ntmps170 (by simp) (by simp) (by simp) (W.sound ?_)
 show @W Tryz.prog 18 ⟨_⟩ ⟨fun x σ=>@q8 _ _ _ ⟨_⟩ _ ⟨_⟩ x σ⟩ _ _
 simp(disch:=omega)only[go_sem]
 refine ql (amL xs hl) ?_
 simp(disch:=omega)only[go_sem]
 refine QA (fun h1=>?_) (fun h1=>?_)
 ·simp(disch:=omega)only[go_sem,h1]
  cases s
  ·simp(disch:=omega)only[go_sem]
   refine qz (by simp(disch:=omega)only[go_sem]) (by simp(disch:=omega)only[go_sem]) ⟨?_,rfl,rfl⟩
   simp[zy,zY,h1]
  ·simp(disch:=omega)only[go_sem]
   refine qz (by simp(disch:=omega)only[go_sem]) (by simp(disch:=omega)only[go_sem]) ⟨?_,rfl,rfl⟩
   show AV.v (.bool _)=AV.v (.bool _)
   unfold zY
   rw[h1,Bool.true_and,Bool.true_and,←decide_not]
   congr 2
   rw[decide_eq_decide]
   omega
 ·simp(disch:=omega)only[go_sem,h1]
  refine qz (by simp(disch:=omega)only[go_sem]) (by simp(disch:=omega)only[go_sem]) ⟨?_,rfl,rfl⟩
  simp[zy,zY,h1]
theorem JZ(s:Bool)(xs:List Int)(e:Int)(hl:xs.length≤2^40):Con Tryz.prog 93 true [.ag [.v (.bool s),.sl xs.length (qe xs),.v (.int .i64 e)]] [] (isA (.v (.bool (dyB s xs e)))):=by
 refine Con.of_aw Tryz.func93 rfl Tryz.ntmps93 (by simp) (by simp) (by simp) (W.sound ?_)
 show @W Tryz.prog 31 ⟨_⟩ ⟨fun x σ=>@q8 _ _ _ ⟨_⟩ _ ⟨_⟩ x σ⟩ _ _
 simp(disch:=omega)only[go_sem]
 refine ql (ZD s xs hl) ?_
 simp(disch:=omega)only[go_sem]
 refine QA (fun hw=>?_) (fun hw=>?_)
 ·have h1:=hw
  simp only[zY,Bool.and_eq_true]at h1
  obtain⟨hx,hll⟩:=ZZ h1.1
  have hxs:xs=lim (vl xs).toNat:=hx
  generalize hm:(vl xs).toNat=m at*
  subst hx
  simp(disch:=omega)only[go_sem,hw]
  refine zO (fun h2=>?_) (fun h2=>?_)
  ·simp(disch:=omega)only[go_sem,h2]
   refine qg (fun h3=>?_) (fun h3=>?_)
   ·simp(disch:=omega)only[go_sem,h3]
    refine qz (by simp(disch:=omega)only[go_sem]) (by simp(disch:=omega)only[go_sem]) ⟨?_,rfl,rfl⟩
    have a2:¬e≤3000:=by omega
    simp[zy,dyB,a2]
   ·simp(disch:=omega)only[go_sem,h3]
    refine qg (fun h4=>?_) (fun h4=>?_)
    ·simp(disch:=omega)only[go_sem,h4]
     have h0:m=0:=qK.1 (List.length_eq_zero_iff.1 (by omega))
     refine qz (by simp(disch:=omega)only[go_sem]) (by simp(disch:=omega)only[go_sem]) ⟨?_,rfl,rfl⟩
     have a1: -3000≤e:=by omega
     have a2:e≤3000:=by omega
     have a3:(lim m).length=0:=by omega
     show AV.v (.bool _)=AV.v (.bool _)
     unfold dyB
     rw[hw,hm,decide_eq_true a1,decide_eq_true a2,decide_eq_true a3,h0]
     simp
    ·simp(disch:=omega)only[go_sem,h4]
     refine ql (abX m 0 (by omega) (by omega) (by omega)) ?_
     simp(disch:=omega)only[go_sem]
     refine qz (by simp(disch:=omega)only[go_sem]) (by simp(disch:=omega)only[go_sem]) ⟨?_,rfl,rfl⟩
     have a1: -3000≤e:=by omega
     have a2:e≤3000:=by omega
     have a3:¬(lim m).length=0:=by omega
     show AV.v (.bool _)=AV.v (.bool _)
     unfold dyB
     rw[hw,hm,decide_eq_true a1,decide_eq_true a2,decide_eq_false a3]
     simp
     omega
  ·simp(disch:=omega)only[go_sem,h2]
   refine qz (by simp(disch:=omega)only[go_sem]) (by simp(disch:=omega)only[go_sem]) ⟨?_,rfl,rfl⟩
   have a1:¬ -3000≤e:=by omega
   simp[zy,dyB,a1]
 ·simp(disch:=omega)only[go_sem,hw]
  refine qz (by simp(disch:=omega)only[go_sem]) (by simp(disch:=omega)only[go_sem]) ⟨?_,rfl,rfl⟩
  simp[zy,dyB,hw]
end Go.Ab
namespace Go.Ab
open Go Go.Proofs
theorem JL(s:Bool)(m:Nat)(e:Int):dyB (oS s m) (lim (oM m)) (oE m e)=jJ m e:=by
 unfold dyB zY jJ jU
 rw[zq,Int.toNat_natCast]
 have hod:=aVQ m
 have hz:=bnq s m
 by_cases h:(lim (oM m)).length≤100
 ·rw[as7 _ h,decide_eq_true h,Bool.true_and,Bool.true_and]
  by_cases h0:oM m=0
  ·have hm:m=0:=y9.1 h0
   rw[hz h0,h0,hm]
   simp[oE,qs]
  ·have h1:oM m % 2=1:=hod.resolve_right h0
   have h2:decide ((lim (oM m)).length=0)=false:=by
    have:=QT h0
    exact decide_eq_false (by omega)
   rw[h2,decide_eq_true h1]
   simp
 ·rw[decide_eq_false h]
  have:Xh (lim (oM m))=false:=by unfold Xh;rw[decide_eq_false h,Bool.false_and]
  rw[this];simp
theorem amR(s:Bool)(m:Nat)(e:Int)(hl:(lim (oM m)).length≤2^40):Con Tryz.prog 172 false [.ag [.v (.bool (oS s m)),.sl (lim (oM m)).length (qe (lim (oM m))),.v (.int .i64 (oE m e))]] [] (isA (if jJ m e=true then .tu [.ag [.v (.bool (oS s m)),.sl (lim (oM m)).length (qe (lim (oM m))),.v (.int .i64 (oE m e))],.v (.bool true)]else .tu [.ag [.v (.bool (false)),.sl (lim (0)).length (qe (lim (0))),.v (.int .i64 (0))],.v (.bool false)])):=by
 refine Con.frzA ?_
 have ck:=JZ (oS s m) (lim (oM m)) (oE m e) hl
 rw[JL]at ck
 cases hd:jJ m e
 ·rw[hd]at ck
  rw[if_neg (by simp),qs]
  refine Con.of_w (rs:=[.cell 2 42,.tmp 3]) Tryz.func172 rfl Tryz.ntmps172 rfl ?_
  simp(disch:=omega)only[go_sem]
  refine ql (ck) ?_
  simp(disch:=omega)only[go_sem]
  exact qp
 ·rw[hd]at ck
  rw[if_pos rfl]
  refine Con.of_w (rs:=[.cell 2 42,.tmp 3]) Tryz.func172 rfl Tryz.ntmps172 rfl ?_
  simp(disch:=omega)only[go_sem]
  refine ql (ck) ?_
  simp(disch:=omega)only[go_sem]
  exact qp
def pmS(s1:Bool)(m1:Nat)(s2:Bool)(m2:Nat):Bool:=(s1 != s2)&&decide (m1*m2≠0)
end Go.Ab
namespace Go.Ab
open Go Go.Proofs
theorem auC(s1:Bool)(m1:Nat)(s2:Bool)(m2:Nat)(l1:(lim m1).length≤2^40)(l2:(lim m2).length≤2^40)(z1:m1=0→s1=false)(z2:m2=0→s2=false):
  Con Tryz.prog 210 true [.ag [.v (.bool (s1)),.sl (lim (m1)).length (qe (lim (m1)))],.ag [.v (.bool (s2)),.sl (lim (m2)).length (qe (lim (m2)))]] [] (isA (.v (.int .i64 (zD (sv s1 m1) (sv s2 m2))))):=by
 rw[ace z1 z2]
 cases s1<;>cases s2
 ·refine Con.of_w (rs:=[.tmp 4]) Tryz.func210 rfl Tryz.ntmps210 rfl ?_
  simp(disch:=omega)only[go_sem]
  refine ql (abW m1 m2 l1 l2) ?_
  simp(disch:=omega)only[go_sem]
  exact qB
 ·refine Con.of_w (rs:=[.tmp 4]) Tryz.func210 rfl Tryz.ntmps210 rfl ?_
  simp(disch:=omega)only[go_sem]
  exact qB
 ·refine Con.of_w (rs:=[.tmp 4]) Tryz.func210 rfl Tryz.ntmps210 rfl ?_
  simp(disch:=omega)only[go_sem]
  exact qB
 ·refine Con.of_w (rs:=[.tmp 4]) Tryz.func210 rfl Tryz.ntmps210 rfl ?_
  simp(disch:=omega)only[go_sem]
  refine ql (abW m2 m1 l2 l1) ?_
  simp(disch:=omega)only[go_sem]
  exact qB
theorem auB(K:Nat)(s1:Bool)(m1:Nat)(e1:Int)(s2:Bool)(m2:Nat)(e2:Int)(h1:bl m1≤4000000)(h2:bl m2≤4000000)(he1: -1000000≤e1∧e1≤1000000)(he2: -1000000≤e2∧e2≤1000000)(k1: -(K:Int)≤e1)(k2: -(K:Int)≤e2)(z1:m1=0→s1=false)(z2:m2=0→s2=false):
  Con Tryz.prog 118 true [.ag [.v (.bool (s1)),.sl (lim (m1)).length (qe (lim (m1))),.v (.int .i64 (e1))],.ag [.v (.bool (s2)),.sl (lim (m2)).length (qe (lim (m2))),.v (.int .i64 (e2))]] [] (isA (.v (.int .i64 (zD (dv K s1 m1 e1) (dv K s2 m2 e2))))):=by
 have hE:=ZJ (m1:=m1) (m2:=m2) he1.1 he2.1
 have b1:=qI (YT (e:=e1) (E:=alE m1 e1 m2 e2) (C:=2000000) h1 (by omega))
 have b2:=qI (YT (e:=e2) (E:=alE m1 e1 m2 e2) (C:=2000000) h2 (by omega))
 rw[←ahF k1 k2]
 have y1:alA m1 e1 (alE m1 e1 m2 e2)=0→s1=false:=fun h=>z1 (Q4.1 h)
 have y2:alA m2 e2 (alE m1 e1 m2 e2)=0→s2=false:=fun h=>z2 (Q4.1 h)
 refine Con.of_w (rs:=[.tmp 4]) Tryz.func118 rfl Tryz.ntmps118 rfl ?_
 simp(disch:=omega)only[go_sem]
 refine qa (agk s1 m1 e1 s2 m2 e2 h1 h2 he1 he2 z1 z2) ?_
 simp(disch:=omega)only[go_sem]
 refine ql (auC s1 (alA m1 e1 (alE m1 e1 m2 e2)) s2 (alA m2 e2 (alE m1 e1 m2 e2)) (by omega) (by omega) y1 y2) ?_
 simp(disch:=omega)only[go_sem]
 exact qB
theorem ana(s1:Bool)(m1:Nat)(e1:Int)(s2:Bool)(m2:Nat)(e2:Int)(h1:dyB s1 (lim m1) e1=true)(h2:dyB s2 (lim m2) e2=true):
  Con Tryz.prog 40 true [.ag [.v (.bool (s1)),.sl (lim (m1)).length (qe (lim (m1))),.v (.int .i64 (e1))],.ag [.v (.bool (s2)),.sl (lim (m2)).length (qe (lim (m2))),.v (.int .i64 (e2))]] [] (isA (.v (.int .i64 (zD (dv 3000 s1 m1 e1) (dv 3000 s2 m2 e2))))):=by
 obtain⟨n1,q1,b1,c1,d1,_,f1⟩:=JK h1
 obtain⟨n2,q2,b2,c2,d2,_,f2⟩:=JK h2
 obtain rfl:=Qz q1
 obtain rfl:=Qz q2
 have k1:=JZ s1 (lim m1) e1 (by omega)
 have k2:=JZ s2 (lim m2) e2 (by omega)
 rw[h1]at k1
 rw[h2]at k2
 refine Con.of_w (rs:=[.tmp 4]) Tryz.func40 rfl Tryz.ntmps40 rfl ?_
 simp(disch:=omega)only[go_sem]
 refine ql (k1) ?_
 simp(disch:=omega)only[go_sem]
 refine ql (k2) ?_
 simp(disch:=omega)only[go_sem]
 refine ql (auB 3000 s1 m1 e1 s2 m2 e2 (by omega) (by omega) (by omega) (by omega) (by omega) (by omega) f1 f2) ?_
 simp(disch:=omega)only[go_sem]
 exact qB
theorem ZE(n:Int)(h: -9223372036854775808≤n∧n<9223372036854775808):Con Tryz.prog 79 false [.v (.int .i64 n)] [] (isA (.ag [.v (.bool (decide (n<0))),.sl (lim (n.natAbs)).length (qe (lim (n.natAbs)))])):=by
 refine Con.frzA ?_
 refine Con.of_w (rs:=[.cell 2 40]) Tryz.func79 rfl Tryz.ntmps79 rfl ?_
 simp(disch:=omega)only[go_sem]
 refine qa (XK n h) ?_
 simp(disch:=omega)only[go_sem]
 exact qp
theorem aSC(e:Int):Con Tryz.prog 171 true [.v (.int .i64 e)] [] (isA (.v (.bool (decide (-12000≤e)&&decide (e≤12000))))):=by
 refine Con.of_aw Tryz.func171 rfl Tryz.ntmps171 (by simp) (by simp) (by simp) (W.sound ?_)
 show @W Tryz.prog 9 ⟨_⟩ ⟨fun x σ=>@q8 _ _ _ ⟨_⟩ _ ⟨_⟩ x σ⟩ _ _
 simp(disch:=omega)only[go_sem]
 repeat' first
  |simp(disch:=omega)only[go_sem, *]
  |(with_reducible refine qg (fun _=>?_) (fun _=>?_))
  |(with_reducible refine zO (fun _=>?_) (fun _=>?_))
  |(with_reducible refine ahm (fun _=>?_) (fun _=>?_))
  |(with_reducible refine QA (fun _=>?_) (fun _=>?_))
 all_goals exact qz (by simp(disch:=omega)only[go_sem]) (by simp(disch:=omega)only[go_sem]) ⟨by simp_all[zy]<;>omega,rfl,rfl⟩
theorem acb(s:Bool)(m:Nat)(e:Int)(h:zY s (lim m)=true)(he: -12000≤e∧e≤12000):
  Con Tryz.prog 78 false [.ag [.v (.bool (s)),.sl (lim (m)).length (qe (lim (m)))],.v (.int .i64 e)] [] (isA (if jJ m e=true then .tu [.ag [.v (.bool (oS s m)),.sl (lim (oM m)).length (qe (lim (oM m))),.v (.int .i64 (oE m e))],.v (.bool true)]else .tu [.ag [.v (.bool (false)),.sl (lim (0)).length (qe (lim (0))),.v (.int .i64 (0))],.v (.bool false)])):=by
 refine Con.frzA ?_
 have h':=h
 simp only[zY,Bool.and_eq_true]at h'
 obtain⟨_,hl⟩:=ZZ h'.1
 have hb:=aci (m:=m)
 have hb2:=qI (Nat.le_trans (jC (aG0 m)) hb)
 have k1:=ZD s (lim m) (by omega)
 rw[h]at k1
 have k2:=aSC e
 rw[decide_eq_true he.1,decide_eq_true he.2]at k2
 have cf:=amR s m e (by omega)
 cases hd:jJ m e
 ·rw[hd,if_neg (by simp),qs]at cf
  rw[if_neg (by simp),qs]
  refine Con.of_w (rs:=[.cell 4 42,.tmp 5]) Tryz.func78 rfl Tryz.ntmps78 rfl ?_
  simp(disch:=omega)only[go_sem]
  refine ql (k1) ?_
  simp(disch:=omega)only[go_sem]
  refine ql (k2) ?_
  simp(disch:=omega)only[go_sem]
  refine qa (Zu s m e (by omega) (by omega)) ?_
  simp(disch:=omega)only[go_sem]
  refine qa (cf) ?_
  simp(disch:=omega)only[go_sem]
  exact qp
 ·rw[hd,if_pos rfl]at cf
  rw[if_pos rfl]
  refine Con.of_w (rs:=[.cell 4 42,.tmp 5]) Tryz.func78 rfl Tryz.ntmps78 rfl ?_
  simp(disch:=omega)only[go_sem]
  refine ql (k1) ?_
  simp(disch:=omega)only[go_sem]
  refine ql (k2) ?_
  simp(disch:=omega)only[go_sem]
  refine qa (Zu s m e (by omega) (by omega)) ?_
  simp(disch:=omega)only[go_sem]
  refine qa (cf) ?_
  simp(disch:=omega)only[go_sem]
  exact qp
theorem acw:tz 1=0:=anD rfl
theorem Qy:lim 1=[1]:=by rw[yC (by omega)];simp[qs]
/-! ### Sameness-/
theorem agd(a b:Nat)(la:(lim a).length≤2^40)(lb:(lim b).length≤2^40):Con Tryz.prog 200 true [.ag [.sl (lim (a)).length (qe (lim (a)))],.ag [.sl (lim (b)).length (qe (lim (b)))]] [] (isA (.v (.bool (decide (a=b))))):=by
 refine Con.of_w (rs:=[.tmp 4]) Tryz.func200 rfl Tryz.ntmps200 rfl ?_
 simp(disch:=omega)only[go_sem]
 refine zO (fun h1=>?_) (fun h1=>?_)
 ·simp(disch:=omega)only[go_sem,h1]
  rw[decide_eq_false (fun e=>h1 (by rw[e]))]
  exact qB
 ·have hl:(lim a).length=(lim b).length:=by omega
  simp(disch:=omega)only[go_sem,h1]
  refine qi (fun i:Nat=>[(2,.pt 40000000 0),(3,.pt 50000000 0),(5,.v (.int .i64 i))]) (fun _=>[(40000000,.own 0 [.sl (lim (a)).length (qe (lim (a)))]),(50000000,.own 0 [.sl (lim (b)).length (qe (lim (b)))])])
   (fun i=>i≤(lim a).length∧(lim a).take i=(lim b).take i) (fun i=>(lim a).length-i) 0 ⟨by omega,by simp⟩ (Le.lst [] _ _ rfl (by simp(disch:=omega)only[go_sem];try omega) (by simp(disch:=omega)only[go_sem])) ?_
  rintro i ⟨hi,ht⟩
  simp(disch:=omega)only[go_sem]
  refine qg (fun h2=>?_) (fun h2=>?_)
  ·simp(disch:=omega)only[go_sem,h2]
   refine qv rfl [⟨0,[],[]⟩,⟨1,[],[]⟩,⟨2,[1],[]⟩,⟨3,[],[]⟩,⟨4,[],[]⟩,⟨5,[1,4],[]⟩,⟨6,[1,4],[]⟩,⟨7,[1,4,6],[]⟩,⟨8,[1,4],[]⟩,⟨9,[1,4],[]⟩,⟨10,[],[]⟩] (by kernel_rfl) ?_
   simp(disch:=omega)only[go_sem]
   refine⟨by omega,by omega,by omega,by omega,?_⟩
   refine zO (fun h3=>?_) (fun h3=>?_)
   ·simp(disch:=omega)only[go_sem,h3]
    rw[decide_eq_false (fun e=>h3 (by rw[e]))]
    exact qB
   ·simp(disch:=omega)only[go_sem,h3]
    refine qb (i+1) [] ⟨by omega,?_⟩ (by show(lim a).length-(i+1)<(lim a).length-i;omega) rfl (by simp(disch:=omega)only[go_sem];try omega) (by simp(disch:=omega)only[go_sem])
    rw[ye (l:=lim a) (by omega),ye (l:=lim b) (by omega),ht,h3]
  ·simp(disch:=omega)only[go_sem,h2]
   have:i=(lim a).length:=by omega
   subst this
   have ht2:lim a=lim b:=by
    have h4:=List.take_of_length_le (l:=lim b) (i:=(lim a).length) (by omega)
    rw[List.take_length,h4]at ht
    exact ht
   rw[decide_eq_true (Qz ht2)]
   exact qB
theorem XI(s1:Bool)(m1:Nat)(s2:Bool)(m2:Nat)(l1:(lim m1).length≤2^40)(l2:(lim m2).length≤2^40):Con Tryz.prog 106 true [.ag [.v (.bool (s1)),.sl (lim (m1)).length (qe (lim (m1)))],.ag [.v (.bool (s2)),.sl (lim (m2)).length (qe (lim (m2)))]] [] (isA (.v (.bool ((s1==s2)&&decide (m1=m2))))):=by
 refine Con.of_w (rs:=[.tmp 4]) Tryz.func106 rfl Tryz.ntmps106 rfl ?_
 cases hs:(s1==s2)
 ·simp(disch:=omega)only[go_sem,hs]
  exact qB
 ·simp(disch:=omega)only[go_sem,hs]
  refine ql (agd m1 m2 l1 l2) ?_
  simp(disch:=omega)only[go_sem]
  exact qB
theorem amJ(s1:Bool)(m1:Nat)(e1:Int)(s2:Bool)(m2:Nat)(e2:Int)(l1:(lim m1).length≤2^40)(l2:(lim m2).length≤2^40):Con Tryz.prog 32 true [.ag [.v (.bool (s1)),.sl (lim (m1)).length (qe (lim (m1))),.v (.int .i64 (e1))],.ag [.v (.bool (s2)),.sl (lim (m2)).length (qe (lim (m2))),.v (.int .i64 (e2))]] [] (isA (.v (.bool (decide (e1=e2)&&((s1==s2)&&decide (m1=m2)))))):=by
 cases he:decide (e1=e2)
 ·have he':¬e1=e2:=by simpa using he
  refine Con.of_w (rs:=[.tmp 4]) Tryz.func32 rfl Tryz.ntmps32 rfl ?_
  simp(disch:=omega)only[go_sem,he']
  exact qB
 ·refine Con.of_w (rs:=[.tmp 4]) Tryz.func32 rfl Tryz.ntmps32 rfl ?_
  simp(disch:=omega)only[go_sem,he]
  refine ql (XI s1 m1 s2 m2 l1 l2) ?_
  simp(disch:=omega)only[go_sem]
  exact qB
end Go.Ab
namespace Go.Ab
open Go Go.Proofs
theorem ab1(e:Int)(he: -3000≤e∧e≤3000):Con Tryz.prog 16 false [.v (.int .i64 1),.v (.int .i64 e)] [] (isA (.ag [.v (.bool (false)),.sl (lim (1)).length (qe (lim (1))),.v (.int .i64 (e))])):=by
 refine Con.frzA ?_
 have hm:oM 1=1:=by unfold oM;rw[acw]
 have hE:oE 1 e=e:=by unfold oE;rw[acw,if_neg (by decide)];simp
 have hf:jJ 1 e=true:=by
  unfold jJ jU;rw[hm,hE,Qy]
  simp only[Bool.and_eq_true,decide_eq_true_eq]
  exact⟨by decide,by omega,by omega⟩
 have c1:=acb false 1 e (by rw[Qy];decide) (by omega)
 rw[if_pos hf,hm,hE]at c1
 have c0:=ZE 1 (by omega)
 have e1:decide ((1:Int)<0)=false:=rfl
 have e2:(1:Int).natAbs=1:=rfl
 rw[e1,e2]at c0
 refine Con.of_aw Tryz.func16 rfl Tryz.ntmps16 (by simp) (by simp) (by simp) (W.sound ?_)
 show @W Tryz.prog 15 ⟨_⟩ ⟨fun x σ=>@q8 _ _ _ ⟨_⟩ _ ⟨_⟩ x σ⟩ _ _
 simp(disch:=omega)only[go_sem]
 refine qa (c0) ?_
 simp(disch:=omega)only[go_sem]
 refine qa (c1) ?_
 simp(disch:=omega)only[go_sem]
 refine qV (by simp(disch:=omega)only[go_sem]) ?_
 show qJ _ 6 _=_
 rfl
theorem aLi:tz 1024=10:=Z7 (a:=0) (by decide)
theorem bbf:(ExV.can ⟨false,1024, -10⟩)=⟨false,1,0⟩:=by
 show(⟨oS false 1024,oM 1024,oE 1024 (-10)⟩:ExV)=_
 unfold oS oM oE
 rw[aLi];rfl
theorem auX:(ExV.can ⟨false,1, -14⟩)=⟨false,1, -14⟩:=by
 show(⟨oS false 1,oM 1,oE 1 (-14)⟩:ExV)=_
 unfold oS oM oE
 rw[acw];rfl
theorem Xy(x:ExV)(a:Nat)(s:Bool)(e:Int)(h:x.can=⟨s,a,e⟩)(h1:(lim a).length≤100)(h2: -3000≤e∧e≤3000):x.fit=true:=by
 have e1:oM x.m=a:=congrArg ExV.m h
 have e2:oE x.m x.e=e:=congrArg ExV.e h
 unfold ExV.fit jJ jU
 rw[e1,e2]
 simp only[Bool.and_eq_true,decide_eq_true_eq]
 exact⟨h1,h2⟩
theorem agA(n:Nat)(h1:n=1):Con Tryz.prog 65 false [.ag [.v (.int .i64 (n)),.sl ([ex0]).length (qn ExV.cs ([ex0]))],.v (.int .i64 (-10))] [] (isA (.tu [.ag [.v (.int .i64 (n)),.sl ([ex1]).length (qn ExV.cs ([ex1]))],.ag [.v (.bool (false)),.sl (lim (1)).length (qe (lim (1))),.v (.int .i64 (-14))],.v (.bool true)])):=by
 have c:=agz n [ex0] (-10) aKP (by omega) (by rw[h1];rfl) (by omega) (abZ n h1) (auJ n h1) (by rw[h1];decide+kernel) (by decide+kernel) (by
  rw[show aKP=[⟨⟨false,16383, -14⟩,⟨false,16385, -14⟩⟩] by decide+kernel,List.all_cons,List.all_nil]
  have t1:tz 16383=0:=anD rfl
  have t2:tz 16385=0:=anD rfl
  have f1:ExV.fit ⟨false,16383, -14⟩=true:=Xy _ 16383 false (-14) (by show(⟨oS false 16383,oM 16383,oE 16383 (-14)⟩:ExV)=_;unfold oS oM oE;rw[t1];rfl) (by have:=qI (m:=16383) (B:=20) (zf.2 (by decide));omega) (by omega)
  have f2:ExV.fit ⟨false,16385, -14⟩=true:=Xy _ 16385 false (-14) (by show(⟨oS false 16385,oM 16385,oE 16385 (-14)⟩:ExV)=_;unfold oS oM oE;rw[t2];rfl) (by have:=qI (m:=16385) (B:=20) (zf.2 (by decide));omega) (by omega)
  unfold SpV.fit
  rw[f1,f2];rfl)
 have eX:aht n aKP (-10)=[⟨false,1024, -10⟩]:=by rw[h1];decide+kernel
 have eF:yn n aKP (-10)=⟨false,1, -14⟩:=by rw[h1];decide+kernel
 rw[eX,eF]at c
 have f1:ExV.fit ⟨false,1024, -10⟩=true:=Xy _ 1 false 0 bbf (by rw[Qy];decide) (by omega)
 have f2:ExV.fit ⟨false,1, -14⟩=true:=Xy _ 1 false (-14) auX (by rw[Qy];decide) (by omega)
 rw[List.all_cons,List.all_nil,f1,f2,if_pos (by rfl),List.map_cons,List.map_nil,bbf,auX]at c
 exact c
set_option maxRecDepth 100000 in
theorem ab9:Con Tryz.prog 14 true [] [] (isA (.v (.bool true))):=by
 obtain⟨n,hn⟩:∃n:Nat,n=1:=⟨1,rfl⟩
 have c:=agA n hn
 have en:(n:Int)=1:=by omega
 have hrow:qn ExV.cs [ex0]=[.v (.bool false),.sl 0 [],.v (.int .i64 0)]:=by
  simp[qn,ExV.cs,ex0,qs,qe]
 rw[en,hrow]at c
 have hr1:qn ExV.cs [ex1]=[.v (.bool false),.sl (lim 1).length (qe (lim 1)),.v (.int .i64 0)]:=by
  simp[qn,ExV.cs,ex1]
 rw[hr1]at c
 have cd1:=ab1 0 (by omega)
 have cd2:=ab1 (-9) (by omega)
 have csd:=amJ false 1 0 false 1 0 (by rw[Qy];decide) (by rw[Qy];decide)
 rw[show(decide ((0:Int)=0)&&((false==false)&&decide ((1:Nat)=1)))=true from rfl]at csd
 have hb:∀e:Int, -3000≤e∧e≤3000→dyB false (lim 1) e=true:=fun e he=>by
  rw[Qy];unfold dyB
  rw[show zY false [1]=true by decide,decide_eq_true he.1,decide_eq_true he.2];rfl
 have ccm:=ana false 1 (-14) false 1 (-9) (hb _ (by omega)) (hb _ (by omega))
 have hle:zD (dv 3000 false 1 (-14)) (dv 3000 false 1 (-9))≤0:=(yH _ _).1.2 (by
  unfold dv sv
  rw[if_neg (by simp),show(-9+((3000:Nat):Int)).toNat=(-14+((3000:Nat):Int)).toNat+5 by rfl,Int.pow_add]
  have:(0:Int)<2^(-14+((3000:Nat):Int)).toNat:=Int.pow_pos (by omega)
  generalize (2:Int)^(-14+((3000:Nat):Int)).toNat=p at*
  omega)
 have q3:decide (zD (dv 3000 false 1 (-14)) (dv 3000 false 1 (-9))≤0)=true:=decide_eq_true hle
 generalize zD (dv 3000 false 1 (-14)) (dv 3000 false 1 (-9))=C at*
 refine Con.of_aw Tryz.func14 rfl Tryz.ntmps14 (by simp) (by simp) (by simp)
  (AW.seqLe (E:=[(0,.v (.bool false))]) (H:=[]) (W.sound ?_) (AW.regSplit (E:=[(0,.v (.bool false)),(7,.ag [.v (.int .i64 1),.sl 1 [.v (.bool false),.sl 0 [],.v (.int .i64 0)]])]) (H:=[]) 3 (by simp only[List.take_succ_cons,List.take_zero];rfl) (by simp only[List.drop_succ_cons,List.drop_zero];rfl) ?_ ?_))
 ·show @W Tryz.prog 38 ⟨_⟩ ⟨_⟩ _ _
  simp(disch:=omega)only[go_sem]
  exact Le.lst [] _ _ rfl (by simp(disch:=omega)only[go_sem]) (by simp(disch:=omega)only[go_sem])
 ·simp(disch:=omega)only[go_sem]
  exact(Le.nilC 80000000 1 (zo:=3) (cs:=[.v (.bool false),.v (.slice none 0 0),.v (.int .i64 0)]) (by simp(disch:=omega)only[go_sem]) rfl).trans ((Le.frz 80000000 (z:=3) (ks:=[.v (.bool false),.sl 0 [],.v (.int .i64 0)]) (by simp(disch:=omega)only[go_sem,List.set_cons_succ,List.set_cons_zero]) rfl (by simp(disch:=omega)only[go_sem])).trans (Le.lst [] _ _ rfl (by simp(disch:=omega)only[go_sem]) (by simp(disch:=omega)only[go_sem])))
 show @Ch Tryz.prog 38 ⟨_⟩ ⟨_⟩ ⟨fun σ=>@W Tryz.prog 38 ⟨_⟩ ⟨fun x σ=>@q8 _ _ _ ⟨_⟩ _ ⟨_⟩ x σ⟩ σ.env σ.hp⟩ _ _
 simp(disch:=omega)only[go_sem]
 refine qa (c) ?_
 simp(disch:=omega)only[go_sem]
 refine qv rfl [⟨0,[],[]⟩,⟨1,[],[]⟩,⟨2,[],[]⟩,⟨3,[],[]⟩,⟨4,[],[]⟩,⟨5,[],[]⟩,⟨6,[],[]⟩,⟨7,[],[]⟩,⟨8,[],[]⟩,⟨9,[],[]⟩,⟨10,[],[]⟩,⟨11,[],[]⟩,⟨12,[],[]⟩,⟨13,[],[]⟩,⟨14,[],[]⟩,⟨15,[],[]⟩,⟨16,[],[]⟩,⟨17,[14,16],[]⟩,⟨18,[],[]⟩,⟨19,[],[]⟩,⟨20,[],[]⟩,⟨21,[],[]⟩,⟨22,[21],[]⟩,⟨23,[],[]⟩,⟨24,[],[]⟩,⟨25,[],[]⟩,⟨26,[],[]⟩] (by kernel_rfl) ?_
 simp(disch:=omega)only[go_sem]
 refine qa (cd1) ?_
 simp(disch:=omega)only[go_sem]
 refine ql (csd) ?_
 simp(disch:=omega)only[go_sem]
 refine qa (cd2) ?_
 simp(disch:=omega)only[go_sem]
 refine ql (ccm) ?_
 simp(disch:=omega)only[go_sem]
 simp(disch:=omega)only[go_sem,q3]
 exact qB
end Go.Ab
namespace Go.Ab
end Go.Ab
namespace Go.Ab
open Go Go.Proofs
def ExV.val(K:Nat)(x:ExV):Int:=dv K x.s x.m x.e
theorem jS{x:ExV}(h:x.ok=true):(-3000≤x.e∧x.e≤3000)∧bl x.m≤1600∧(lim x.m).length≤100∧(x.m=0→x.s=false∧x.e=0)∧(x.m % 2=1∨x.m=0):=by
 obtain⟨m,e1,h1,h2,h3,h4,h5⟩:=JK h
 obtain rfl:=Qz e1
 exact⟨h3,h2,h1,fun h0=>⟨h5 h0,by omega⟩,by omega⟩
theorem ahH{x:ExV}(h:x.fit=true):x.can.ok=true:=by
 show dyB (oS x.s x.m) (lim (oM x.m)) (oE x.m x.e)=true
 rw[JL];exact h
theorem abK:ex0.ok=true:=by show dyB false (lim 0) 0=true;rw[qs];decide
theorem QG{K:Nat}{x:ExV}(h: -(K:Int)≤x.e):x.can.val K=x.val K:=by
 show dv K (oS x.s x.m) (oM x.m) (oE x.m x.e)=_
 rw[aSt h,bki];rfl
theorem jF{K:Nat}{x y:ExV}(h1: -(K:Int)≤x.e)(h2: -(K:Int)≤y.e):(x.plus y).val K=x.val K+y.val K:=bkL h1 h2
theorem yO{K K':Nat}{x y:ExV}(h1: -(K:Int)≤x.e)(h2: -(K':Int)≤y.e):(x.times y).val (K+K')=x.val K*y.val K':=by
 show dv (K+K') ((x.s != y.s)&&decide (x.m*y.m≠0)) (x.m*y.m) (x.e+y.e)=_
 rw[abN];exact baY h1 h2
theorem as6{K:Nat}{x:ExV}:x.neg.val K= -x.val K:=by
 show dv K ((!x.s)&&decide (x.m≠0)) x.m x.e= -dv K x.s x.m x.e
 rw[abN];unfold dv;rw[aUt,Int.neg_mul]
theorem aTr{K:Nat}{x:ExV}:x.abs.val K=(x.val K).natAbs:=by
 show dv K false x.m x.e=((dv K x.s x.m x.e).natAbs:Int)
 unfold dv sv
 rw[Int.natAbs_mul]
 have hp:0≤(2:Int)^(x.e+(K:Int)).toNat:=Int.le_of_lt (Int.pow_pos (by omega))
 have e:(((2:Int)^(x.e+(K:Int)).toNat).natAbs:Int)=2^(x.e+(K:Int)).toNat:=by omega
 rw[Int.natCast_mul,e]
 cases x.s<;>simp
theorem Yk{K j:Nat}{x:ExV}(h: -(K:Int)≤x.e):x.val (K+j)=x.val K*2^j:=by
 unfold ExV.val dv
 have:(x.e+((K+j:Nat):Int)).toNat=(x.e+(K:Int)).toNat+j:=by omega
 rw[this,Int.pow_add,Int.mul_assoc]
theorem Jo{K:Int}{x y:ExV}(h1:K≤x.e)(h2:K≤y.e):K≤(x.plus y).e:=ZJ h1 h2
theorem bbg{K:Int}{x:ExV}(h: -K≤x.e)(h0:0≤K): -K≤x.can.e:=bir h h0
theorem aSN(x:ExV):x.can.ok=x.fit:=JL x.s x.m x.e
def ExV.tel(x:ExV):ExV:=if x.fit=true then x.can else ex0
theorem agX(x:ExV):x.tel.ok=true:=by
 unfold ExV.tel;split
 ·rename_i h;exact ahH h
 ·exact abK
/-! ### Floats that are numbers-/
def flD(F:FlV):ExV:=⟨oS (xS F.k F.s) F.m.toNat,oM F.m.toNat,oE F.m.toNat F.e⟩
end Go.Ab
namespace Go.Ab
open Go
section
variable {P:Program}{f:FuncId}{args:List AV}{bs:List Ob}{post:AV→List Ob→List Ob→Prop}
theorem Con.frzB(h:Con P f false args bs post)(hm:∀r hs bs',post r hs bs'→(∀ob∈bs',ob.men fun _=>False)∧∀ob∈hs,ob.men fun _=>False):
  Con P f false args bs (fun r' hs' bs'=>hs'=[]∧∃r hs,post r hs bs'∧r'=qJ (rhp hs []) 6 r):=by
 intro R ι w vs h1 h2 h3 h4 h5
 refine(h R ι w vs h1 h2 h3 h4 h5).mono ?_
 rintro e w' ⟨x,r,hs,bs',R',ι',he,hp,hF⟩
 obtain⟨mB,mH⟩:=hm _ _ _ hp
 have hfree:∀m,10000000≤m→rhp hs [] m=.free:=fun m hm=>by simp[rhp,hm]
 have hlow:∀m,m<10000000→rhp hs [] m=rhp hs bs' m:=fun m hm=>by unfold rhp;rw[if_neg (by omega),if_neg (by omega)]
 have hnil:∀m,m<10000000→rhp [] bs' m=.free:=fun m hm=>by unfold rhp;rw[if_neg (by omega)];simp
 have hhi:∀m,10000000≤m→rhp [] bs' m=rhp hs bs' m:=fun m hm=>by unfold rhp;rw[if_pos hm,if_pos hm]
 have hsm:∀{m z cs},rhp hs [] m=.own z cs→m<10000000∧rhp hs bs' m=.own z cs:=by
  intro m z cs e
  rcases Nat.lt_or_ge m 10000000 with hm|hm
  ·exact⟨hm,by rw[←hlow m hm];exact e⟩
  ·rw[hfree m hm]at e;cases e
 have hbg:∀{m z cs},rhp [] bs' m=.own z cs→10000000≤m∧rhp hs bs' m=.own z cs:=by
  intro m z cs e
  rcases Nat.lt_or_ge m 10000000 with hm|hm
  ·rw[hnil m hm]at e;cases e
  ·exact⟨hm,by rw[←hhi m hm];exact e⟩
 have hget:∀(l:List Ob) (k z:Nat) (cs:List AV),(∀ob∈l,ob.men fun _=>False)→l.getD k .free=.own z cs→AllL (fun _=>False) cs:=by
  intro l k z cs hl e
  rw[List.getD_eq_getElem?_getD]at e
  rcases Nat.lt_or_ge k l.length with hk|hk
  ·rw[List.getElem?_eq_getElem hk]at e
   have:=hl _ (List.getElem_mem hk)
   simp only[Option.getD_some]at e
   rw[e]at this;exact this
  ·rw[List.getElem?_eq_none hk]at e;cases e
 have hO:HpOk R' ι' w' (rhp hs []):=by
  refine⟨fun m=>?_,fun m z cs B e hB hr=>hF.nR m z cs B (hsm e).2 hB (.inr hr),fun m m' z z' cs cs' B B' e e'=>hF.inj m m' z z' cs cs' B B' (hsm e).2 (hsm e').2,fun m z cs e=>?_⟩
  ·rcases Nat.lt_or_ge m 10000000 with hm|hm
   ·rw[hlow m hm];exact hF.okF m hm
   ·rw[hfree m hm];trivial
  ·have h6:=(hsm e).1
   unfold rhp at e
   rw[if_neg (by omega)]at e
   exact(hget hs m z cs mH e).mono fun _ h=>h.elim
 have hown:∀{m z cs B},rhp hs [] m=.own z cs→ι' m=some B→w.heap.size≤B.b∧B.b<w'.heap.size:=by
  intro m z cs B e hB
  obtain⟨hm,e⟩:=hsm e
  refine⟨hF.fresh m z cs B hm e hB,?_⟩
  have:=hF.okF m hm
  rw[e,hB]at this
  obtain⟨c,T,lo,hi,g1,_⟩:=this
  rcases Nat.lt_or_ge B.b w'.heap.size with h'|h'
  ·exact h'
  ·simp[Array.getElem?_eq_none h']at g1
 refine⟨x,qJ (rhp hs []) 6 r,[],bs',fun b=>R' b∨avB (rhp hs []) ι' b,ι',he,⟨rfl,r,hs,hp,rfl⟩,?_⟩
 refine⟨hF.ext,fun b hb=>?_,fun b hb=>?_,.fr _ _ (zS hO (fun _ h=>.inl h) (fun _ h=>.inr h) 6 hF.rep),jE 6 r,fun m hm=>?_,fun m hm=>?_,fun m z cs B e hB=>?_,
  fun m m' z z' cs cs' B B' e e'=>hF.inj m m' z z' cs cs' B B' (hbg e).2 (hbg e').2,fun m z cs e=>?_,fun m z cs B hm e=>?_,hF.len,hF.bown,hF.bnf⟩
 ·rcases hb with hb|⟨m,z,cs,B,e,hB,rfl⟩
  ·exact hF.rlt b hb
  ·exact(hown e hB).2
 ·rcases hb with hb|⟨m,z,cs,B,e,hB,rfl⟩
  ·exact hF.rnew b hb
  ·exact .inl (hown e hB).1
 ·rw[hnil m hm];trivial
 ·rw[hhi m hm]
  exact(hF.okB m hm).mono (fun _ _=>rfl) (fun _ _ _ _ _=>rfl) (fun b hb=>hb.elim .inl fun h=>.inr (.inl h)) (fun z cs e=>AllL.of_mem fun a _=>AV.all_true (fun _=>rfl) a)
 ·obtain⟨hm,e⟩:=hbg e
  have h6:=hF.nR m z cs B e hB
  rintro(hr|hr|⟨m',z',cs',B',e',hB',hb⟩)
  ·exact h6 (.inl hr)
  ·exact h6 (.inr hr)
  ·obtain⟨hm',e'⟩:=hsm e'
   have:=hF.inj m' m z' z cs' cs B' B e' e hB' hB hb
   omega
 ·have h6:=(hbg e).1
  unfold rhp at e
  rw[if_pos h6]at e
  exact(hget bs' _ z cs mB e).mono fun _ h=>h.elim
 ·rw[hnil m hm]at e;cases e
end
end Go.Ab
namespace Go.Ab
open Go
structure IvV where
 lo:DyV
 hi:DyV
def IvV.cs(x:IvV):List AV:=x.lo.cs++x.hi.cs
def dy0:DyV:=⟨false,[],0⟩
def iv0:IvV:=⟨dy0,dy0⟩
theorem aKL(x:IvV):x.cs.length=6:=rfl
theorem aKK{ρ:Nat→Nat}(x:IvV):zP ρ x.cs=x.cs:=rfl
theorem aty{hp:Nat→Ob}{k:Nat}(x:IvV):x.cs.map (qJ hp (k+1))=x.cs:=rfl
theorem aKM{p:Nat→Prop}(x:IvV):AllL p x.cs:=by simp[IvV.cs,DyV.cs,AllL,AV.All]
theorem aRb{l:List IvV}:(qn IvV.cs l).length=l.length*6:=yR aKL
theorem aRa{ρ:Nat→Nat}{l:List IvV}:zP ρ (qn IvV.cs l)=qn IvV.cs l:=Zd aKK
theorem aHA{hp:Nat→Ob}{k:Nat}{l:List IvV}:(qn IvV.cs l).map (qJ hp (k+1))=qn IvV.cs l:=QN aty
theorem aRc{p:Nat→Prop}{l:List IvV}:AllL p (qn IvV.cs l)=True:=eq_true (Ze aKM)
theorem aHB{p:Nat→Prop}{x:IvV}:AllL p x.cs=True:=eq_true (aKM x)
attribute [go_sem] aRb aRa aHA aRc aHB aKK aty
end Go.Ab
namespace Go.Ab
open Go Go.Proofs
section
variable (g:Nat)(p:IvV→Bool)
theorem am7(x:IvV)(hf:Con Tryz.prog g true [.ag x.cs] [] (isA (.v (.bool (p x)))))(hg:qo Tryz.prog g=True):
  Con Tryz.prog 302 true [.ag x.cs,.fp [.fn g []] 0] [] (isA (.v (.bool (!p x)))):=by
 unfold IvV.cs DyV.cs at hf ⊢
 refine Con.of_w (rs:=[.tmp 3]) Tryz.func302 rfl Tryz.ntmps302 rfl ?_
 simp(disch:=omega)only[go_sem,hg]
 refine qD hf (by simp(disch:=omega)only[go_sem]) ?_
 rintro r hs ⟨rfl,rfl,_⟩
 refine⟨by simp[qR],?_⟩
 simp(disch:=omega)only[go_sem]
 exact qB
theorem agp(f:Nat)(caps:List AV)(xs:List IvV)(hl:xs.length≤2^40)(hf:∀x∈xs,Con Tryz.prog f true (.ag x.cs::caps) [] (isA (.v (.bool (p x)))))(hg:qo Tryz.prog f=True)
  (hc:∀h:Nat→Ob,caps.map (qJ h 6)=caps) (hc5:∀h:Nat→Ob,caps.map (qJ h 5)=caps) (hn:∀ks,AllL (yJ ks) caps) (hr:∀ρ,zP ρ caps=caps):
  Con Tryz.prog 321 true [.sl xs.length (qn IvV.cs xs),.fn f caps] [] (fun r hs bs=>∃i:Int,r=.v (.int .i64 i)∧hs=[]∧(0≤i↔∃x∈xs,p x=true)):=by
 refine Con.of_aw Tryz.func321 rfl Tryz.ntmps321 (by simp) (by simp) (by simp) (W.sound ?_)
 show @W Tryz.prog 19 ⟨_⟩ ⟨fun x σ=>@q8 _ _ _ ⟨_⟩ _ ⟨_⟩ x σ⟩ _ _
 simp(disch:=omega)only[go_sem]
 refine qi (fun i:Nat=>[(0,.sl xs.length (qn IvV.cs xs)),(1,.fn f caps),(6,.sl xs.length (qn IvV.cs xs)),(7,.v (.int .i64 xs.length)),(8,.v (.int .i64 i))])
  (fun _=>[]) (fun i=>i≤xs.length∧∀j,j<i→p (xs.getD j iv0)=false) (fun i=>xs.length-i) 0 ⟨by omega,fun j hj=>by omega⟩ (Le.lst [] _ _ rfl (by simp(disch:=omega)only[go_sem,hr,hn]) (by simp(disch:=omega)only[go_sem])) ?_
 rintro i ⟨hi,hp⟩
 simp(disch:=omega)only[go_sem]
 refine qg (fun h1=>?_) (fun h1=>?_)
 ·have hcut:=Y9 (l:=xs) aKL (i:=i) (by omega) iv0
  simp(disch:=omega)only[go_sem,h1,hcut,hg]
  refine⟨by omega,by omega,qD (hf (xs.getD i iv0) (by rw[List.getD_eq_getElem?_getD,List.getElem?_eq_getElem (by omega)];exact List.getElem_mem _)) (by simp(disch:=omega)only[go_sem,hc,hc5]) ?_⟩
  rintro r hs ⟨rfl,rfl,_⟩
  refine⟨by simp[qR],?_⟩
  simp(disch:=omega)only[go_sem]
  refine QA (fun h2=>?_) (fun h2=>?_)
  ·simp(disch:=omega)only[go_sem,h2]
   refine qz (by simp(disch:=omega)only[go_sem]) (by simp(disch:=omega)only[go_sem]) ⟨i,rfl,rfl,?_⟩
   refine⟨fun _=>⟨_,?_,h2⟩,fun _=>by omega⟩
   rw[List.getD_eq_getElem?_getD,List.getElem?_eq_getElem (by omega)];exact List.getElem_mem _
  ·simp(disch:=omega)only[go_sem,h2]
   refine qb (i+1) [] ⟨by omega,fun j hj=>?_⟩ (by show xs.length-(i+1)<xs.length-i;omega) rfl (by simp(disch:=omega)only[go_sem,hr,hn];try omega) (by simp(disch:=omega)only[go_sem])
   rcases(by omega:j<i∨j=i)with h|h
   ·exact hp j h
   ·subst h;exact h2
 ·simp(disch:=omega)only[go_sem,h1]
  refine qz (by simp(disch:=omega)only[go_sem]) (by simp(disch:=omega)only[go_sem]) ⟨-1,rfl,rfl,?_⟩
  refine⟨fun h=>by omega,fun⟨x,hx,hpx⟩=>?_⟩
  obtain⟨j,hj,rfl⟩:=List.getElem_of_mem hx
  have:=hp j (by omega)
  rw[List.getD_eq_getElem?_getD,List.getElem?_eq_getElem hj]at this
  simp only[Option.getD_some]at this
  rw[this]at hpx;cases hpx
theorem Yf(f:Nat)(caps:List AV)(xs:List IvV)(hl:xs.length≤2^40)(hf:∀x∈xs,Con Tryz.prog f true (.ag x.cs::caps) [] (isA (.v (.bool (p x)))))(hg:qo Tryz.prog f=True)
  (hc:∀h:Nat→Ob,caps.map (qJ h 6)=caps) (hc5:∀h:Nat→Ob,caps.map (qJ h 5)=caps) (hn:∀ks,AllL (yJ ks) caps) (hr:∀ρ,zP ρ caps=caps):
  Con Tryz.prog 301 true [.sl xs.length (qn IvV.cs xs),.fn f caps] [] (isA (.v (.bool (xs.any p)))):=by
 refine Con.of_aw Tryz.func301 rfl Tryz.ntmps301 (by simp) (by simp) (by simp) (W.sound ?_)
 show @W Tryz.prog 9 ⟨_⟩ ⟨fun x σ=>@q8 _ _ _ ⟨_⟩ _ ⟨_⟩ x σ⟩ _ _
 simp(disch:=omega)only[go_sem]
 refine qD (agp p f caps xs hl hf hg hc hc5 hn hr) (by simp(disch:=omega)only[go_sem,hc,hc5]) ?_
 rintro r hs ⟨i,rfl,rfl,hi⟩
 refine⟨by simp[qR],?_⟩
 simp(disch:=omega)only[go_sem]
 refine qz (by simp(disch:=omega)only[go_sem]) (by simp(disch:=omega)only[go_sem]) ⟨?_,rfl,rfl⟩
 have:decide (0≤i)=xs.any p:=by rw[Bool.eq_iff_iff,decide_eq_true_eq,hi,List.any_eq_true]
 rw[this];rfl
theorem auP(xs:List IvV)(hl:xs.length≤2^40)(hf:∀x∈xs,Con Tryz.prog g true [.ag x.cs] [] (isA (.v (.bool (p x)))))(hg:qo Tryz.prog g=True):
  Con Tryz.prog 260 true [.sl xs.length (qn IvV.cs xs),.fn g []] [] (isA (.v (.bool (xs.all p)))):=by
 refine Con.of_aw Tryz.func260 rfl Tryz.ntmps260 (by simp) (by simp) (by simp) (W.sound ?_)
 show @W Tryz.prog 9 ⟨_⟩ ⟨fun x σ=>@q8 _ _ _ ⟨_⟩ _ ⟨_⟩ x σ⟩ _ _
 simp(disch:=omega)only[go_sem]
 refine qD (Yf (fun x=> !p x) 302 [.fp [.fn g []] 0] xs hl (fun x hx=>am7 g p x (hf x hx) hg) (by simp(disch:=omega)only[go_sem]) (fun h=>rfl) (fun h=>rfl) (fun ks=>by simp(disch:=omega)only[go_sem]) (fun ρ=>rfl)) (by simp(disch:=omega)only[go_sem]) ?_
 rintro r hs ⟨rfl,rfl,_⟩
 refine⟨by simp[qR],?_⟩
 simp(disch:=omega)only[go_sem]
 refine qz (by simp(disch:=omega)only[go_sem]) (by simp(disch:=omega)only[go_sem]) ⟨?_,rfl,rfl⟩
 have:(!xs.any fun x=> !p x)=xs.all p:=by rw[List.all_eq_not_any_not]
 rw[this];rfl
end
end Go.Ab
namespace Go.Ab
open Go Go.Proofs
/-! ### Intervals that were drawn,and those that are valid-/
def DyV.ex(d:DyV):ExV:=⟨d.s,(vl d.xs).toNat,d.e⟩
def ExV.dyv(x:ExV):DyV:=⟨x.s,lim x.m,x.e⟩
theorem af4(x:ExV):x.dyv.ex=x:=by unfold ExV.dyv DyV.ex;rw[zq,Int.toNat_natCast]
theorem amA{d:DyV}(h:d.ok=true):d=d.ex.dyv∧d.ex.ok=true:=by
 obtain⟨s,xs,e⟩:=d
 obtain⟨m,hm, -⟩:=JK (show dyB s xs e=true from h)
 subst hm
 have e1:(DyV.mk s (lim m) e).ex=⟨s,m,e⟩:=af4 ⟨s,m,e⟩
 rw[e1]
 exact⟨rfl,h⟩
def ivB(v:IvV):Bool:=v.lo.ok&&(v.hi.ok&&decide (v.lo.ex.val 3000≤v.hi.ex.val 3000))
def IvV.sp(v:IvV):SpV:=⟨v.lo.ex,v.hi.ex⟩
def SpV.iv(s:SpV):IvV:=⟨s.lo.dyv,s.hi.dyv⟩
def SpV.ok(s:SpV):Bool:=s.lo.ok&&(s.hi.ok&&decide (s.lo.val 3000≤s.hi.val 3000))
theorem aKN(s:SpV):ivB s.iv=s.ok:=by
 unfold ivB SpV.ok SpV.iv
 rw[af4,af4];rfl
theorem aWi{v:IvV}(h:ivB v=true):∃s:SpV,v=s.iv∧s.ok=true:=by
 have h':=h
 simp only[ivB,Bool.and_eq_true]at h'
 obtain⟨lo,hi⟩:=v
 have e:(⟨lo,hi⟩:IvV)=(IvV.sp ⟨lo,hi⟩).iv:=by
  show _=IvV.mk lo.ex.dyv hi.ex.dyv
  rw[←(amA h'.1).1,←(amA h'.2.1).1]
 exact⟨_,e,by rw[←aKN,←e];exact h⟩
theorem Y3{s:SpV}(h:s.ok=true):s.lo.ok=true∧s.hi.ok=true∧s.lo.val 3000≤s.hi.val 3000:=by
 simpa [SpV.ok]using h
theorem afB{s:SpV}(h:s.ok=true):s.bd (-3000) 4600:=⟨Qu (Y3 h).1,Qu (Y3 h).2.1⟩
theorem QF{K:Nat}{x y:ExV}(h1: -(K:Int)≤x.e)(h2: -(K:Int)≤y.e):x.cmp y=zD (x.val K) (y.val K):=by
 unfold ExV.cmp
 exact ahF h1 h2
theorem YQ{x y:ExV}(hx:x.ok=true)(hy:y.ok=true):x.cmp y=zD (x.val 3000) (y.val 3000):=QF (jS hx).1.1 (jS hy).1.1
theorem agw(a b:DyV)(ha:a.xs.length≤1000)(hb:b.xs.length≤1000):Con Tryz.prog 164 true [.sl 2 [.v (.bool a.s),.sl a.xs.length (qe a.xs),.v (.int .i64 a.e),.v (.bool b.s),.sl b.xs.length (qe b.xs),.v (.int .i64 b.e)]] [] (isA (.v (.bool (a.ok&&b.ok)))):=by
 have c:=YO [a,b] (by simp) (by intro x hx;simp at hx;rcases hx with rfl|rfl<;>omega)
 rw[show [a,b].all DyV.ok=(a.ok&&b.ok) by simp]at c
 exact c
theorem aIV(v:IvV)(h1:v.lo.xs.length≤1000)(h2:v.hi.xs.length≤1000):Con Tryz.prog 261 true [.ag [.v (.bool (v).lo.s),.sl (v).lo.xs.length (qe (v).lo.xs),.v (.int .i64 (v).lo.e),.v (.bool (v).hi.s),.sl (v).hi.xs.length (qe (v).hi.xs),.v (.int .i64 (v).hi.e)]] [] (isA (.v (.bool (ivB v)))):=by
 unfold ivB
 have ca:=agw v.lo v.hi h1 h2
 cases k1:v.lo.ok
 ·rw[k1]at ca
  refine Con.of_aw Tryz.func261 rfl Tryz.ntmps261 (by simp) (by simp) (by simp) (W.sound ?_)
  show @W Tryz.prog 19 ⟨_⟩ ⟨fun x σ=>@q8 _ _ _ ⟨_⟩ _ ⟨_⟩ x σ⟩ _ _
  simp(disch:=omega)only[go_sem]
  refine qv rfl [⟨0,[],[]⟩,⟨1,[],[]⟩,⟨2,[1],[]⟩,⟨3,[1],[]⟩,⟨4,[],[]⟩,⟨5,[],[]⟩,⟨6,[],[]⟩,⟨7,[],[]⟩,⟨8,[],[]⟩,⟨10,[8],[]⟩,⟨11,[8],[]⟩,⟨9,[11],[]⟩,⟨12,[],[]⟩,⟨13,[],[]⟩,⟨14,[],[]⟩,⟨15,[],[]⟩,⟨16,[],[]⟩] (by kernel_rfl) ?_
  simp(disch:=omega)only[go_sem]
  refine ql (ca) ?_
  simp(disch:=omega)only[go_sem]
  exact qB
 cases k2:v.hi.ok
 ·rw[k1,k2]at ca
  refine Con.of_aw Tryz.func261 rfl Tryz.ntmps261 (by simp) (by simp) (by simp) (W.sound ?_)
  show @W Tryz.prog 19 ⟨_⟩ ⟨fun x σ=>@q8 _ _ _ ⟨_⟩ _ ⟨_⟩ x σ⟩ _ _
  simp(disch:=omega)only[go_sem]
  refine qv rfl [⟨0,[],[]⟩,⟨1,[],[]⟩,⟨2,[1],[]⟩,⟨3,[1],[]⟩,⟨4,[],[]⟩,⟨5,[],[]⟩,⟨6,[],[]⟩,⟨7,[],[]⟩,⟨8,[],[]⟩,⟨10,[8],[]⟩,⟨11,[8],[]⟩,⟨9,[11],[]⟩,⟨12,[],[]⟩,⟨13,[],[]⟩,⟨14,[],[]⟩,⟨15,[],[]⟩,⟨16,[],[]⟩] (by kernel_rfl) ?_
  simp(disch:=omega)only[go_sem]
  refine ql (ca) ?_
  simp(disch:=omega)only[go_sem]
  exact qB
 ·rw[k1,k2]at ca
  obtain⟨lo,hi⟩:=v
  dsimp only at k1 k2 ca ⊢
  obtain⟨e1,o1⟩:=amA k1
  obtain⟨e2,o2⟩:=amA k2
  generalize lo.ex=x at*
  generalize hi.ex=y at*
  subst e1 e2
  unfold ExV.dyv at*
  refine Con.of_aw Tryz.func261 rfl Tryz.ntmps261 (by simp) (by simp) (by simp) (W.sound ?_)
  show @W Tryz.prog 19 ⟨_⟩ ⟨fun x σ=>@q8 _ _ _ ⟨_⟩ _ ⟨_⟩ x σ⟩ _ _
  simp(disch:=omega)only[go_sem]
  refine qv rfl [⟨0,[],[]⟩,⟨1,[],[]⟩,⟨2,[1],[]⟩,⟨3,[1],[]⟩,⟨4,[],[]⟩,⟨5,[],[]⟩,⟨6,[],[]⟩,⟨7,[],[]⟩,⟨8,[],[]⟩,⟨10,[8],[]⟩,⟨11,[8],[]⟩,⟨9,[11],[]⟩,⟨12,[],[]⟩,⟨13,[],[]⟩,⟨14,[],[]⟩,⟨15,[],[]⟩,⟨16,[],[]⟩] (by kernel_rfl) ?_
  simp(disch:=omega)only[go_sem]
  refine ql (ca) ?_
  simp(disch:=omega)only[go_sem]
  refine qa (jp x.s x.m x.e) ?_
  simp(disch:=omega)only[go_sem]
  refine qa (jp y.s y.m y.e) ?_
  simp(disch:=omega)only[go_sem]
  refine ql (jt x y ((Qu o1).mono (by omega) (by omega)) ((Qu o2).mono (by omega) (by omega))) ?_
  simp(disch:=omega)only[go_sem]
  refine qz (by simp(disch:=omega)only[go_sem]) (by simp(disch:=omega)only[go_sem]) ⟨?_,rfl,rfl⟩
  rw[YQ o1 o2]
  show AV.v (.bool _)=AV.v (.bool (true&&(true&&decide (ExV.val 3000 x≤ExV.val 3000 y))))
  rw[Bool.true_and,Bool.true_and]
  congr 2
  exact decide_eq_decide.2 (yH _ _).1
theorem am6(l:List IvV)(hl:l.length≤1000)(hx:∀v∈l,v.lo.xs.length≤1000∧v.hi.xs.length≤1000):Con Tryz.prog 180 true [.sl l.length (qn IvV.cs l)] [] (isA (.v (.bool (l.all ivB)))):=by
 refine Con.of_w (rs:=[.tmp 2]) Tryz.func180 rfl Tryz.ntmps180 rfl ?_
 simp(disch:=omega)only[go_sem]
 refine ql (auP 261 ivB l (by omega) (fun v h=>aIV v (hx v h).1 (hx v h).2) (by simp(disch:=omega)only[go_sem])) ?_
 simp(disch:=omega)only[go_sem]
 exact qB
def aWf(v:IvV):Prop:=v.lo.xs.length≤1000∧v.hi.xs.length≤1000
theorem aQ5{s:SpV}(h:s.ok=true):aWf s.iv:=by
 have h1:=jS (Y3 h).1
 have h2:=jS (Y3 h).2.1
 exact⟨by show(lim s.lo.m).length≤1000;omega,by show(lim s.hi.m).length≤1000;omega⟩
theorem Zv(s:SpV):Con Tryz.prog 83 false [.ag [.v (.bool (s).lo.s),.sl (lim (s).lo.m).length (qe (lim (s).lo.m)),.v (.int .i64 (s).lo.e),.v (.bool (s).hi.s),.sl (lim (s).hi.m).length (qe (lim (s).hi.m)),.v (.int .i64 (s).hi.e)]] [] (isA (.ag [.v (.bool (s).lo.s),.sl (lim (s).lo.m).length (qe (lim (s).lo.m)),.v (.int .i64 (s).lo.e),.v (.bool (s).hi.s),.sl (lim (s).hi.m).length (qe (lim (s).hi.m)),.v (.int .i64 (s).hi.e)])):=by
 refine Con.frzA ?_
 refine Con.of_w (rs:=[.cell 2 125]) Tryz.func83 rfl Tryz.ntmps83 rfl ?_
 simp(disch:=omega)only[go_sem]
 refine qv rfl [⟨0,[],[]⟩,⟨1,[],[]⟩,⟨3,[1],[]⟩,⟨4,[1],[]⟩,⟨2,[4],[]⟩,⟨5,[],[]⟩,⟨6,[],[]⟩,⟨7,[],[]⟩] (by kernel_rfl) ?_
 simp(disch:=omega)only[go_sem]
 refine qa (jp s.lo.s s.lo.m s.lo.e) ?_
 simp(disch:=omega)only[go_sem]
 refine qa (jp s.hi.s s.hi.m s.hi.e) ?_
 simp(disch:=omega)only[go_sem]
 exact qp
theorem ba9(s:SpV)(x:ExV)(hs:s.ok=true)(hx:x.ok=true):Con Tryz.prog 88 true [.ag [.v (.bool (s).lo.s),.sl (lim (s).lo.m).length (qe (lim (s).lo.m)),.v (.int .i64 (s).lo.e),.v (.bool (s).hi.s),.sl (lim (s).hi.m).length (qe (lim (s).hi.m)),.v (.int .i64 (s).hi.e)],.ag [.v (.bool (x).s),.sl (lim (x).m).length (qe (lim (x).m)),.v (.int .i64 (x).e)]] [] (isA (.v (.bool (decide (s.lo.val 3000≤x.val 3000)&&decide (x.val 3000≤s.hi.val 3000))))):=by
 obtain⟨o1,o2, -⟩:=Y3 hs
 have c1:=jt s.lo x ((Qu o1).mono (by omega) (by omega)) ((Qu hx).mono (by omega) (by omega))
 have c2:=jt x s.hi ((Qu hx).mono (by omega) (by omega)) ((Qu o2).mono (by omega) (by omega))
 rw[YQ o1 hx]at c1
 rw[YQ hx o2]at c2
 have e1:decide (zD (s.lo.val 3000) (x.val 3000)≤0)=decide (s.lo.val 3000≤x.val 3000):=decide_eq_decide.2 (yH _ _).1
 have e2:decide (zD (x.val 3000) (s.hi.val 3000)≤0)=decide (x.val 3000≤s.hi.val 3000):=decide_eq_decide.2 (yH _ _).1
 refine Con.of_aw Tryz.func88 rfl Tryz.ntmps88 (by simp) (by simp) (by simp) (W.sound ?_)
 show @W Tryz.prog 17 ⟨_⟩ ⟨fun x σ=>@q8 _ _ _ ⟨_⟩ _ ⟨_⟩ x σ⟩ _ _
 simp(disch:=omega)only[go_sem]
 refine ql (c1) ?_
 simp(disch:=omega)only[go_sem]
 cases h1:decide (s.lo.val 3000≤x.val 3000)
 ·simp(disch:=omega)only[go_sem,e1,h1]
  exact qB
 ·simp(disch:=omega)only[go_sem,e1,h1]
  refine ql (c2) ?_
  simp(disch:=omega)only[go_sem]
  exact qz (by simp(disch:=omega)only[go_sem]) (by simp(disch:=omega)only[go_sem]) ⟨by rw[e2];rfl,rfl,rfl⟩
theorem anc{m c:Nat}{hp:Nat→Ob}{K:KV}(x y:ExV)(hx:x.bd (-400000) 400000)(hy:y.bd (-400000) 400000)
  (hk:K (.ag [.v (.bool (ze [x,y]).s),.sl (lim (ze [x,y]).m).length (qe (lim (ze [x,y]).m)),.v (.int .i64 (ze [x,y]).e)]) (upd hp m (.own 3 [.v (.bool x.s),.sl (lim x.m).length (qe (lim x.m)),.v (.int .i64 x.e),.v (.bool y.s),.sl (lim y.m).length (qe (lim y.m)),.v (.int .i64 y.e)])))
  (hm:hp m=.own 3 [.v (.bool x.s),.sl (lim x.m).length (qe (lim x.m)),.v (.int .i64 x.e),.v (.bool y.s),.sl (lim y.m).length (qe (lim y.m)),.v (.int .i64 y.e)]:=by simp(disch:=omega)only[go_sem]):@ZQ Tryz.prog 149 [.rf m 0 2] hp c ⟨K⟩:=by
 refine yr false [m] (JS [x,y] (by simp) (by simp) (fun z hz=>?_)) (by simp[snp,idx]) (by rw[Zi,hm];rfl) rfl (qQ hm (of_eq_true (af3 (l:=[x,y])))) (by intro n hn;exact⟨_,List.mem_cons_self ..,by rw[List.mem_singleton.1 hn];rfl⟩) ?_
 ·simp only[List.mem_cons,List.not_mem_nil,or_false]at hz
  rcases hz with rfl|rfl
  ·exact hx
  ·exact hy
 rintro r hs bs ⟨rfl,rfl,rfl⟩-
 exact⟨⟨by simp,trivial,fun h=>by cases h⟩,hk⟩
theorem agD{m c:Nat}{hp:Nat→Ob}{K:KV}(x y:ExV)(hx:x.bd (-400000) 400000)(hy:y.bd (-400000) 400000)
  (hk:K (.ag [.v (.bool (qM [x,y]).s),.sl (lim (qM [x,y]).m).length (qe (lim (qM [x,y]).m)),.v (.int .i64 (qM [x,y]).e)]) (upd hp m (.own 3 [.v (.bool x.s),.sl (lim x.m).length (qe (lim x.m)),.v (.int .i64 x.e),.v (.bool y.s),.sl (lim y.m).length (qe (lim y.m)),.v (.int .i64 y.e)])))
  (hm:hp m=.own 3 [.v (.bool x.s),.sl (lim x.m).length (qe (lim x.m)),.v (.int .i64 x.e),.v (.bool y.s),.sl (lim y.m).length (qe (lim y.m)),.v (.int .i64 y.e)]:=by simp(disch:=omega)only[go_sem]):@ZQ Tryz.prog 178 [.rf m 0 2] hp c ⟨K⟩:=by
 refine yr false [m] (amO [x,y] (by simp) (by simp) (fun z hz=>?_)) (by simp[snp,idx]) (by rw[Zi,hm];rfl) rfl (qQ hm (of_eq_true (af3 (l:=[x,y])))) (by intro n hn;exact⟨_,List.mem_cons_self ..,by rw[List.mem_singleton.1 hn];rfl⟩) ?_
 ·simp only[List.mem_cons,List.not_mem_nil,or_false]at hz
  rcases hz with rfl|rfl
  ·exact hx
  ·exact hy
 rintro r hs bs ⟨rfl,rfl,rfl⟩-
 exact⟨⟨by simp,trivial,fun h=>by cases h⟩,hk⟩
def yk(s t:SpV):SpV:=⟨ze [s.lo,t.lo],qM [s.hi,t.hi]⟩
def bnC(s t:SpV):SpV:=⟨qM [s.lo,t.lo],ze [s.hi,t.hi]⟩
theorem aV5{x y:ExV}(hx:x.ok=true)(hy:y.ok=true):(ze [x,y]).ok=true∧(ze [x,y]).val 3000=if x.val 3000<y.val 3000 then y.val 3000 else x.val 3000:=by
 show(zV x y).ok=true∧(zV x y).val 3000=_
 unfold zV
 rw[YQ hy hx]
 by_cases h:x.val 3000<y.val 3000
 ·have:0<zD (y.val 3000) (x.val 3000):=by unfold zD;rw[if_neg (by omega),if_pos h];omega
  rw[if_pos this,if_pos h];exact⟨hy,rfl⟩
 ·have:¬0<zD (y.val 3000) (x.val 3000):=by unfold zD;split<;>(try split)<;>omega
  rw[if_neg this,if_neg h];exact⟨hx,rfl⟩
theorem aKH{x y:ExV}(hx:x.ok=true)(hy:y.ok=true):(qM [x,y]).ok=true∧(qM [x,y]).val 3000=if y.val 3000<x.val 3000 then y.val 3000 else x.val 3000:=by
 show(zw x y).ok=true∧(zw x y).val 3000=_
 unfold zw
 rw[YQ hy hx]
 by_cases h:y.val 3000<x.val 3000
 ·rw[if_pos ((yH _ _).2.1.2 h),if_pos h];exact⟨hy,rfl⟩
 ·rw[if_neg (fun h'=>h ((yH _ _).2.1.1 h')),if_neg h];exact⟨hx,rfl⟩
theorem amI(s t:SpV)(hs:s.ok=true)(ht:t.ok=true):Con Tryz.prog 84 false [.ag [.v (.bool (s).lo.s),.sl (lim (s).lo.m).length (qe (lim (s).lo.m)),.v (.int .i64 (s).lo.e),.v (.bool (s).hi.s),.sl (lim (s).hi.m).length (qe (lim (s).hi.m)),.v (.int .i64 (s).hi.e)],.ag [.v (.bool (t).lo.s),.sl (lim (t).lo.m).length (qe (lim (t).lo.m)),.v (.int .i64 (t).lo.e),.v (.bool (t).hi.s),.sl (lim (t).hi.m).length (qe (lim (t).hi.m)),.v (.int .i64 (t).hi.e)]] [] (isA (.tu [.ag [.v (.bool (yk s t).lo.s),.sl (lim (yk s t).lo.m).length (qe (lim (yk s t).lo.m)),.v (.int .i64 (yk s t).lo.e),.v (.bool (yk s t).hi.s),.sl (lim (yk s t).hi.m).length (qe (lim (yk s t).hi.m)),.v (.int .i64 (yk s t).hi.e)],.v (.bool (decide ((yk s t).lo.val 3000≤(yk s t).hi.val 3000)))])):=by
 refine Con.frzA ?_
 have bs:=afB hs
 have bt:=afB ht
 have o1:=(aV5 (Y3 hs).1 (Y3 ht).1).1
 have o2:=(aKH (Y3 hs).2.1 (Y3 ht).2.1).1
 have cc:=jt _ _ ((Qu o1).mono (by omega) (by omega)) ((Qu o2).mono (by omega) (by omega))
 rw[YQ o1 o2]at cc
 have e1:decide (zD ((ze [s.lo,t.lo]).val 3000) ((qM [s.hi,t.hi]).val 3000)≤0)=decide ((ze [s.lo,t.lo]).val 3000≤(qM [s.hi,t.hi]).val 3000):=decide_eq_decide.2 (yH _ _).1
 unfold yk
 refine Con.of_w (rs:=[.cell 4 125,.tmp 5]) Tryz.func84 rfl Tryz.ntmps84 rfl ?_
 simp(disch:=omega)only[go_sem]
 refine qv rfl [⟨0,[],[]⟩,⟨1,[],[]⟩,⟨2,[1],[]⟩,⟨3,[1],[]⟩,⟨6,[1,3],[]⟩,⟨7,[1,3],[]⟩,⟨8,[1,3,7],[]⟩,⟨9,[1,3,7],[]⟩,⟨4,[7,9],[]⟩,⟨10,[1,3],[130000000]⟩,⟨13,[1,3,7,9],[130000000,190000000]⟩,⟨5,[7,9],[190000000,80000000]⟩,⟨11,[],[80000000]⟩,⟨12,[],[80000000]⟩,⟨14,[],[]⟩] (by kernel_rfl) ?_
 simp(disch:=omega)only[go_sem]
 refine anc s.lo t.lo (bs.1.mono (by omega) (by omega)) (bt.1.mono (by omega) (by omega)) ?_
 simp(disch:=omega)only[go_sem]
 refine agD s.hi t.hi (bs.2.mono (by omega) (by omega)) (bt.2.mono (by omega) (by omega)) ?_
 generalize ze [s.lo,t.lo]=x at*
 generalize qM [s.hi,t.hi]=y at*
 simp(disch:=omega)only[go_sem]
 refine qv rfl [⟨0,[],[]⟩,⟨1,[0],[]⟩,⟨2,[0],[]⟩,⟨3,[0,2],[]⟩,⟨4,[0,2],[]⟩,⟨5,[0],[]⟩,⟨6,[0],[]⟩,⟨7,[],[]⟩,⟨8,[],[]⟩] (by kernel_rfl) ?_
 simp(disch:=omega)only[go_sem]
 refine ql (cc) ?_
 simp(disch:=omega)only[go_sem]
 exact qp (hp:=by simp(disch:=omega)only[go_sem,e1])
def SpV.tel(s:SpV):SpV:=if s.fit=true then s.can else sp0
def bnz(s t:SpV):SpV:=if(yk s t).lo.val 3000≤(yk s t).hi.val 3000 then yk s t else sp0
theorem out_bd{s:SpV}{lo hi low:Int}(hs:s.bd lo hi)(h1:lo≤low)(h2:low≤hi):(s.out low).bd lo (hi+1):=⟨ExV.rnd_bd hs.1 h1 h2,ExV.rnd_bd hs.2 h1 h2⟩
def bnb(s:SpV)(x:ExV):Bool:=decide (s.lo.val 3000≤x.val 3000)&&decide (x.val 3000≤s.hi.val 3000)
end Go.Ab
namespace Go.Ab
open Go Go.Proofs
/-! ### Matrices that were drawn,and those that are valid-/
structure matV(n:Nat)(L:List ExV):Prop where
 n1:1≤n
 n4:n≤4
 len:L.length=n*n
 ok:∀x∈L,x.ok=true
theorem aV7{k:Int}{M:List DyV}(h:amn k M=true):∃(n:Nat) (L:List ExV),k=n∧M=L.map ExV.dyv∧matV n L:=by
 simp only[amn,Bool.and_eq_true,decide_eq_true_eq,List.all_eq_true]at h
 obtain⟨⟨h1,h2⟩,h3,h4⟩:=h
 obtain⟨n,rfl⟩:=Int.eq_ofNat_of_zero_le (show 0≤k by omega)
 have hm:M=(M.map DyV.ex).map ExV.dyv:=by
  rw[List.map_map]
  conv=>lhs;rw[←List.map_id M]
  exact List.map_congr_left fun d hd=>(amA (h4 d hd)).1
 refine⟨n,M.map DyV.ex,rfl,hm,by omega,by omega,?_,fun x hx=>?_⟩
 ·rw[List.length_map];exact_mod_cast h3
 ·obtain⟨d,hd,rfl⟩:=List.mem_map.1 hx
  exact(amA (h4 d hd)).2
theorem aGz(L:List ExV):qn DyV.cs (L.map ExV.dyv)=qn ExV.cs L:=by unfold qn;rw[List.map_map];rfl
theorem matV.bd{n:Nat}{L:List ExV}(h:matV n L):gbd (-3000) 4600 L:=fun x hx=>Qu (h.ok x hx)
theorem matV.bd4{n:Nat}{L:List ExV}(h:matV n L):gbd (-400000) 400000 L:=fun x hx=>(Qu (h.ok x hx)).mono (by omega) (by omega)
theorem matV.bd3{n:Nat}{L:List ExV}(h:matV n L):gbd (-190000) 190000 L:=fun x hx=>(Qu (h.ok x hx)).mono (by omega) (by omega)
theorem matV.l16{n:Nat}{L:List ExV}(h:matV n L):L.length≤16:=by rw[h.len];exact j7 h.n4
theorem Qf(n:Nat)(L:List ExV)(h:matV n L):Con Tryz.prog 73 true [.ag [.v (.int .i64 (n)),.sl (L).length (qn ExV.cs (L))]] [] (isA (.v (.bool true))):=by
 have c:=YP n L (by have:=h.l16;omega) (fun x hx=>by have:=(jS (h.ok x hx)).2.2.1;omega)
 rw[show aQW n L=true by
  unfold aQW
  simp only[Bool.and_eq_true,decide_eq_true_eq,List.all_eq_true]
  exact⟨⟨by have:=h.n1;omega,by have:=h.n4;omega⟩,by rw[h.len,Int.natCast_mul],h.ok⟩]at c
 exact c
theorem am9(k:Int)(M:List DyV)(h1:M.length≤16)(h2:∀d∈M,d.xs.length≤200):Con Tryz.prog 73 true [.ag [.v (.int .i64 k),.sl M.length (qn DyV.cs M)]] [] (isA (.v (.bool (amn k M)))):=
 aca k M (by omega) fun d hd=>by have:=h2 d hd;omega
def gN(n:Nat)(l:List ExV):Nat:=if l.all ExV.fit=true then n else 0
def gT(l:List ExV):List ExV:=if l.all ExV.fit=true then l.map ExV.can else []
theorem ahC(n:Nat)(l:List ExV)(hl:l.length≤1000)(hb:gbd (-400000) 400000 l):Con Tryz.prog 77 false [.ag [.v (.int .i64 (n)),.sl (l).length (qn ExV.cs (l))]] [] (isA (.tu [.ag [.v (.int .i64 (gN n l)),.sl (gT l).length (qn ExV.cs (gT l))],.v (.bool (l.all ExV.fit))])):=by
 have c:=auy n l hl hb
 unfold gN gT
 cases h:l.all ExV.fit
 ·rw[h,if_neg (by simp)]at c
  rw[if_neg (by simp),if_neg (by simp)]
  exact c
 ·rw[h,if_pos rfl]at c
  rw[if_pos rfl,if_pos rfl,List.length_map]
  exact c
theorem biB{n:Nat}{l:List ExV}(h1:1≤n)(h4:n≤4)(hl:l.length=n*n)(h:l.all ExV.fit=true):gN n l=n∧gT l=l.map ExV.can∧matV n (l.map ExV.can):=by
 refine⟨if_pos h,if_pos h,h1,h4,by rw[List.length_map];exact hl,fun x hx=>?_⟩
 obtain⟨y,hy,rfl⟩:=List.mem_map.1 hx
 exact ahH (List.all_eq_true.1 h y hy)
theorem ab8(n n':Nat)(L L':List ExV)(h:matV n L)(h':matV n' L'):Con Tryz.prog 97 true [.ag [.v (.int .i64 (n)),.sl (L).length (qn ExV.cs (L))],.ag [.v (.int .i64 (n')),.sl (L').length (qn ExV.cs (L'))]] [] (isA (.v (.bool (decide (n=n'))))):=by
 refine Con.of_aw Tryz.func97 rfl Tryz.ntmps97 (by simp) (by simp) (by simp) (W.sound ?_)
 show @W Tryz.prog 18 ⟨_⟩ ⟨fun x σ=>@q8 _ _ _ ⟨_⟩ _ ⟨_⟩ x σ⟩ _ _
 simp(disch:=omega)only[go_sem]
 refine ql (Qf n L h) ?_
 simp(disch:=omega)only[go_sem]
 refine ql (Qf n' L' h') ?_
 simp(disch:=omega)only[go_sem]
 refine qz (by simp(disch:=omega)only[go_sem]) (by simp(disch:=omega)only[go_sem]) ⟨?_,rfl,rfl⟩
 show AV.v (.bool _)=AV.v (.bool _)
 congr 2
 exact decide_eq_decide.2 ⟨fun h=>by omega,fun h=>by omega⟩
def bou(k:Int)(M:List DyV)(k':Int)(M':List DyV):Bool:=amn k M&&(amn k' M'&&decide (k=k'))
theorem amt{n:Nat}{L L':List ExV}(h:matV n L)(h':matV n L'):gbd (-6000) 9204 (ym n L L'):=
 aHJ fun i j hi hj=>(aug (l1:= -3000) (h1:=4600) (l2:= -3000) (h2:=4600) hi hj (Nat.le_refl n) h.len h'.len h.bd h'.bd (by omega)).mono (by omega) (by have:=h.n4;omega)
theorem afU{n:Nat}{L:List ExV}{y:ExV}(h:matV n L)(hy:y.ok=true):gbd (-6000) 9200 (qF n L y):=
 aHJ fun i j hi hj=>ExV.times_bd (zj h.bd (by rw[h.len];exact qT hi hj)) (Qu hy)
theorem aSG(n:Nat)(L L':List ExV)(h:matV n L)(h':matV n L'):Con Tryz.prog 28 false [.ag [.v (.int .i64 (n)),.sl (L).length (qn ExV.cs (L))],.ag [.v (.int .i64 (n)),.sl (L').length (qn ExV.cs (L'))]] [] (isA (.tu [.ag [.v (.int .i64 (gN n (ym n L L'))),.sl (gT (ym n L L')).length (qn ExV.cs (gT (ym n L L')))],.v (.bool ((ym n L L').all ExV.fit))])):=by
 refine Con.frzA ?_
 have ca:=ab8 n n L L' h h'
 rw[decide_eq_true rfl]at ca
 have co:=am1 n L L' h.n4 h.len h'.len h.bd3 h'.bd3
 have hl:(ym n L L').length=n*n:=z7
 have cm:=ahC n (ym n L L') (by have:=j7 h.n4;omega) (je (amt h h') (by omega) (by omega))
 generalize ym n L L'=y at*
 refine Con.of_w (rs:=[.cell 4 25,.tmp 5]) Tryz.func28 rfl Tryz.ntmps28 rfl ?_
 simp(disch:=omega)only[go_sem]
 refine ql (ca) ?_
 simp(disch:=omega)only[go_sem]
 refine qv rfl [⟨0,[],[]⟩,⟨2,[0],[]⟩,⟨1,[2],[]⟩,⟨3,[],[]⟩,⟨4,[],[]⟩,⟨5,[],[]⟩,⟨6,[],[]⟩,⟨7,[],[]⟩,⟨8,[],[]⟩,⟨9,[],[]⟩] (by kernel_rfl) ?_
 simp(disch:=omega)only[go_sem]
 refine qa (zX n L (by have:=h.l16;omega)) ?_
 simp(disch:=omega)only[go_sem]
 refine qa (zX n L' (by have:=h'.l16;omega)) ?_
 simp(disch:=omega)only[go_sem]
 refine qa (co) ?_
 simp(disch:=omega)only[go_sem]
 refine qa (cm) ?_
 simp(disch:=omega)only[go_sem]
 exact qp
theorem XT(n:Nat)(L:List ExV)(y:ExV)(h:matV n L)(hy:y.ok=true):Con Tryz.prog 15 false [.ag [.v (.int .i64 (n)),.sl (L).length (qn ExV.cs (L))],.ag [.v (.bool (y).s),.sl (lim (y).m).length (qe (lim (y).m)),.v (.int .i64 (y).e)]] [] (isA (.tu [.ag [.v (.int .i64 (gN n (qF n L y))),.sl (gT (qF n L y)).length (qn ExV.cs (gT (qF n L y)))],.v (.bool ((qF n L y).all ExV.fit))])):=by
 refine Con.frzA ?_
 have k1:=ahD y.s (lim y.m) y.e (by have:=(jS hy).2.2.1;omega)
 rw[show dyB y.s (lim y.m) y.e=true from hy]at k1
 have co:=yG n L y h.n4 h.len h.bd4 ((Qu hy).mono (by omega) (by omega))
 have hl:(qF n L y).length=n*n:=z7
 have cm:=ahC n (qF n L y) (by have:=j7 h.n4;omega) (je (afU h hy) (by omega) (by omega))
 generalize qF n L y=z at*
 refine Con.of_w (rs:=[.cell 4 25,.tmp 5]) Tryz.func15 rfl Tryz.ntmps15 rfl ?_
 simp(disch:=omega)only[go_sem]
 refine ql (Qf n L h) ?_
 simp(disch:=omega)only[go_sem]
 refine ql (k1) ?_
 simp(disch:=omega)only[go_sem]
 refine qv rfl [⟨0,[],[]⟩,⟨2,[0],[]⟩,⟨1,[2],[]⟩,⟨3,[],[]⟩,⟨4,[],[]⟩,⟨5,[],[]⟩,⟨6,[],[]⟩,⟨7,[],[]⟩,⟨8,[],[]⟩,⟨9,[],[]⟩] (by kernel_rfl) ?_
 simp(disch:=omega)only[go_sem]
 refine qa (zX n L (by have:=h.l16;omega)) ?_
 simp(disch:=omega)only[go_sem]
 refine qa (jp y.s y.m y.e) ?_
 simp(disch:=omega)only[go_sem]
 refine qa (co) ?_
 simp(disch:=omega)only[go_sem]
 refine qa (cm) ?_
 simp(disch:=omega)only[go_sem]
 exact qp
end Go.Ab
namespace Go.Ab
/-! ### Sums and greatest ones of whole numbers-/
def qk(f:Nat→Int):Nat→Int
 |0=>0
 |k+1=>qk f k+f k
def jG(f:Nat→Int):Nat→Int
 |0=>0
 |k+1=>if jG f k<f k then f k else jG f k
theorem qu{f g:Nat→Int}:∀{k:Nat},(∀i,i<k→f i=g i)→qk f k=qk g k
 |0,_=>rfl
 |k+1,h=>by rw[qk,qk,qu fun i hi=>h i (by omega),h k (by omega)]
theorem QJ{f g:Nat→Int}:∀{k:Nat},(∀i,i<k→f i≤g i)→qk f k≤qk g k
 |0,_=>Int.le_refl _
 |k+1,h=>by
  have h1:=QJ (f:=f) (g:=g) (k:=k) fun i hi=>h i (by omega)
  have h2:=h k (by omega)
  rw[qk,qk];omega
theorem yg(f g:Nat→Int):∀k:Nat,qk (fun i=>f i+g i) k=qk f k+qk g k
 |0=>rfl
 |k+1=>by rw[qk,qk,qk,yg f g k];omega
theorem aa6(f:Nat→Int):∀k:Nat,qk (fun i=> -f i) k= -qk f k
 |0=>rfl
 |k+1=>by rw[qk,qk,aa6 f k];omega
theorem zE(f:Nat→Int)(c:Int):∀k:Nat,qk (fun i=>f i*c) k=qk f k*c
 |0=>by simp[qk]
 |k+1=>by rw[qk,qk,zE f c k,Int.add_mul]
theorem q9(f:Nat→Int)(c:Int):∀k:Nat,qk (fun i=>c*f i) k=c*qk f k
 |0=>by simp[qk]
 |k+1=>by rw[qk,qk,q9 f c k,Int.mul_add]
theorem y6:∀k:Nat,qk (fun _=>0) k=0
 |0=>rfl
 |k+1=>by rw[qk,y6 k];rfl
theorem yf(g:Nat→Nat→Int)(m:Nat):∀k:Nat,qk (fun i=>qk (fun t=>g i t) m) k=qk (fun t=>qk (fun i=>g i t) k) m
 |0=>(y6 m).symm
 |k+1=>by
  rw[qk,yf g m k,←yg]
  exact qu fun t _=>rfl
theorem aa5{f:Nat→Int}{k:Nat}(h:∀i,i<k→0≤f i):0≤qk f k:=by
 have:=QJ (f:=fun _=>0) (g:=f) h
 rwa[y6]at this
theorem Jg(f:Nat→Int):∀k:Nat,((qk f k).natAbs:Int)≤qk (fun i=>((f i).natAbs:Int)) k
 |0=>Int.le_refl _
 |k+1=>by
  have:=Jg f k
  rw[qk,qk];omega
theorem ja{f:Nat→Int}{j:Nat}:∀{k:Nat},j<k→(∀i,i<k→i≠j→f i=0)→qk f k=f j
 |0,h,_=>by omega
 |k+1,h,h2=>by
  rw[qk]
  by_cases hj:j=k
  ·subst hj
   have:qk f j=qk (fun _=>0) j:=qu fun i hi=>h2 i (by omega) (by omega)
   rw[this,y6];omega
  ·rw[ja (by omega) (fun i hi=>h2 i (by omega)),h2 k (by omega) (by omega)];omega
theorem zH(f:Nat→Int):∀k:Nat,0≤jG f k
 |0=>Int.le_refl _
 |k+1=>by have:=zH f k;rw[jG];split<;>omega
theorem ahe(f:Nat→Int){j:Nat}:∀{k:Nat},j<k→f j≤jG f k
 |0,h=>by omega
 |k+1,h=>by
  rw[jG]
  by_cases hj:j=k
  ·subst hj;split<;>omega
  ·have:=ahe f (j:=j) (k:=k) (by omega)
   split<;>omega
theorem Xj{f:Nat→Int}{c:Int}(hc:0≤c):∀{k:Nat},(∀j,j<k→f j≤c)→jG f k≤c
 |0,_=>hc
 |k+1,h=>by
  have h1:=Xj hc (k:=k) fun j hj=>h j (by omega)
  have h2:=h k (by omega)
  rw[jG];split<;>omega
theorem Qw{f g:Nat→Int}:∀{k:Nat},(∀i,i<k→f i=g i)→jG f k=jG g k
 |0,_=>rfl
 |k+1,h=>by rw[jG,jG,Qw fun i hi=>h i (by omega),h k (by omega)]
theorem abv(f:Nat→Int){c:Int}(hc:0<c):∀k:Nat,jG (fun j=>f j*c) k=jG f k*c
 |0=>by simp[jG]
 |k+1=>by
  rw[jG,jG,abv f hc k]
  have:jG f k*c<f k*c↔jG f k<f k:=⟨fun h=>Int.lt_of_mul_lt_mul_right h (Int.le_of_lt hc),fun h=>Int.mul_lt_mul_of_pos_right h hc⟩
  by_cases h:jG f k<f k
  ·rw[if_pos h,if_pos (this.2 h)]
  ·rw[if_neg h,if_neg (fun h'=>h (this.1 h'))]
def nrm(A:Nat→Nat→Int)(n:Nat):Int:=jG (fun j=>qk (fun i=>((A i j).natAbs:Int)) n) n
theorem Xf(A:Nat→Nat→Int){n j:Nat}(hj:j<n):qk (fun i=>((A i j).natAbs:Int)) n≤nrm A n:=ahe (fun j=>qk (fun i=>((A i j).natAbs:Int)) n) hj
theorem Zf(A:Nat→Nat→Int)(n:Nat):0≤nrm A n:=zH _ _
theorem asW{A B:Nat→Nat→Int}{n:Nat}(h:∀i j,i<n→j<n→A i j=B i j):nrm A n=nrm B n:=
 Qw fun j hj=>qu fun i hi=>by rw[h i j hi hj]
theorem aQt{A B C:Nat→Nat→Int}{n:Nat}(h:∀i j,i<n→j<n→C i j=qk (fun t=>A i t*B t j) n):nrm C n≤nrm A n*nrm B n:=by
 have h1:=Zf A n
 have h2:=Zf B n
 refine Xj (Int.mul_nonneg h1 h2) fun j hj=>?_
 have h4:=Xf B hj
 have h5:qk (fun i=>((C i j).natAbs:Int)) n≤qk (fun i=>qk (fun t=>((A i t).natAbs:Int)*((B t j).natAbs:Int)) n) n:=QJ fun i hi=>by
  rw[h i j hi hj]
  refine Int.le_trans (Jg _ n) (Int.le_of_eq (qu fun t _=>?_))
  rw[Int.natAbs_mul,Int.natCast_mul]
 rw[yf]at h5
 have h6:qk (fun t=>qk (fun i=>((A i t).natAbs:Int)*((B t j).natAbs:Int)) n) n≤qk (fun t=>nrm A n*((B t j).natAbs:Int)) n:=QJ fun t ht=>by
  rw[zE]
  exact Int.mul_le_mul_of_nonneg_right (Xf A ht) (by omega)
 rw[q9]at h6
 have h7:nrm A n*qk (fun t=>((B t j).natAbs:Int)) n≤nrm A n*nrm B n:=Int.mul_le_mul_of_nonneg_left h4 h1
 omega
theorem asV{A C:Nat→Nat→Int}{n:Nat}{c:Int}(hc:c≠0)(h:∀i j,i<n→j<n→C i j=A i j*c):nrm C n=nrm A n*(c.natAbs:Int):=by
 unfold nrm
 rw[←abv _ (by omega)]
 refine Qw fun j hj=>?_
 rw[←zE]
 exact qu fun i hi=>by rw[h i j hi hj,Int.natAbs_mul,Int.natCast_mul]
end Go.Ab
namespace Go.Ab
open Go Go.Proofs
/-! ### What matrices tell-/
def mv(K:Nat)(L:List ExV)(n i j:Nat):Int:=(L.getD (i*n+j) ex0).val K
def eK(K:Nat)(L:List ExV):Prop:=∀x∈L, -(K:Int)≤x.e
theorem ZC{K:Nat}{L:List ExV}{i:Nat}(h:eK K L)(hi:i<L.length): -(K:Int)≤(L.getD i ex0).e:=by
 rw[List.getD_eq_getElem?_getD,List.getElem?_eq_getElem hi]
 exact h _ (List.getElem_mem hi)
theorem matV.eK{n:Nat}{L:List ExV}(h:matV n L){K:Nat}(hK:3000≤K):eK K L:=fun x hx=>by have:=(jS (h.ok x hx)).1;omega
theorem Zp(K:Nat):ex0.val K=0:=XF
theorem ahE{K n:Nat}{L:List ExV}{j:Nat}(hK:eK K L)(hl:L.length=n*n)(hj:j<n):∀k,k≤n→(acs n L j k).val K=qk (fun i=>((mv K L n i j).natAbs:Int)) k∧ -(K:Int)≤(acs n L j k).e
 |0,_=>⟨Zp K,by show-(K:Int)≤0;omega⟩
 |k+1,hk=>by
  obtain⟨h1,h2⟩:=ahE hK hl hj k (by omega)
  have h3:=ZC hK (i:=k*n+j) (by rw[hl];exact qT (by omega) hj)
  rw[acd]
  refine⟨?_,Jo h2 h3⟩
  rw[jF (y:=ExV.abs _) h2 h3,h1,aTr];rfl
theorem jT{K n:Nat}{L:List ExV}(hK:eK K L)(hl:L.length=n*n):∀k,k≤n→(qS n L k).val K=jG (fun j=>qk (fun i=>((mv K L n i j).natAbs:Int)) n) k∧ -(K:Int)≤(qS n L k).e
 |0,_=>⟨Zp K,by show-(K:Int)≤0;omega⟩
 |k+1,hk=>by
  obtain⟨h1,h2⟩:=jT hK hl k (by omega)
  obtain⟨h3,h4⟩:=ahE hK hl (show k<n by omega) n (Nat.le_refl n)
  rw[Zg]
  show(zV (qS n L k) (acs n L k n)).val K=_∧_≤(zV (qS n L k) (acs n L k n)).e
  unfold zV
  rw[QF h4 h2,h3,h1,jG]
  by_cases h:jG (fun j=>qk (fun i=>((mv K L n i j).natAbs:Int)) n) k<qk (fun i=>((mv K L n i k).natAbs:Int)) n
  ·rw[if_pos h,if_pos (by unfold zD;rw[if_neg (by omega),if_pos h];omega)]
   exact⟨h3,h4⟩
  ·rw[if_neg h,if_neg (by unfold zD;split<;>(try split)<;>omega)]
   exact⟨h1,h2⟩
theorem ahd{n i j:Nat}(hj:j<n):(i*n+j)/n=i∧(i*n+j) % n=j:=by
 constructor
 ·rw[Nat.mul_comm,Nat.mul_add_div (by omega),Nat.div_eq_of_lt hj,Nat.add_zero]
 ·rw[Nat.mul_comm,Nat.mul_add_mod,Nat.mod_eq_of_lt hj]
theorem aHI{n:Nat}{g:Nat→Nat→ExV}{i j:Nat}(hi:i<n)(hj:j<n):(gl n g (n*n)).getD (i*n+j) ex0=g i j:=by
 rw[aWs (qT hi hj),(ahd hj).1,(ahd hj).2]
theorem aQX{L:List ExV}{k:Nat}(hk:k<L.length):(L.map ExV.can).getD k ex0=(L.getD k ex0).can:=by
 rw[List.getD_eq_getElem?_getD,List.getElem?_eq_getElem (by rw[List.length_map];exact hk),List.getD_eq_getElem?_getD,List.getElem?_eq_getElem hk]
 simp
theorem aV0{K n:Nat}{g:Nat→Nat→ExV}{i j:Nat}(hi:i<n)(hj:j<n)(hK: -(K:Int)≤(g i j).e):mv K ((gl n g (n*n)).map ExV.can) n i j=(g i j).val K:=by
 unfold mv
 rw[aQX (by rw[z7];exact qT hi hj),aHI hi hj,QG hK]
theorem as8{K K' n:Nat}{L:List ExV}{y:ExV}{i j:Nat}(h:eK K L)(hy: -(K':Int)≤y.e)(hl:L.length=n*n)(hi:i<n)(hj:j<n):mv (K+K') ((qF n L y).map ExV.can) n i j=mv K L n i j*y.val K':=by
 have a:=ZC h (i:=i*n+j) (by rw[hl];exact qT hi hj)
 unfold qF
 rw[aV0 hi hj (by show _≤(L.getD (i*n+j) ex0).e+y.e;omega),yO a hy];rfl
end Go.Ab
namespace Go.Ab
open Go Go.Proofs
def boo(l:List UInt8)(i h:Int):Ob:=.own 0 [.sl l.length (qj l),.v (.int .i64 i),.v (.int .i64 h)]
def YE(l:List UInt8)(Q:AV→Prop):AV→List Ob→List Ob→Prop:=fun r hs bs=>hs=[]∧Q r∧∃i h:Int,(0≤i∧i≤l.length)∧bs=[.own 0 [.sl l.length (qj l),.v (.int .i64 i),.v (.int .i64 h)]]
section
variable {P:Program}{N f c:Nat}{aa0 args:List AV}{hp:Nat→Ob}{K:KV}{Q:AV→Prop}{e:Nat→AV}{l:List UInt8}{i h:Int}
theorem qx{n:Nat}(hc:Con P f false (.pt 10000000 0::args) [.own 0 [.sl l.length (qj l),.v (.int .i64 i),.v (.int .i64 h)]] (YE l Q))
  (hk:∀(r:AV) (i' h':Int),(0≤i'∧i'≤l.length)→Q r→K (r.ren (rho c [n])) (upd hp n (.own 0 [.sl l.length (qj l),.v (.int .i64 i'),.v (.int .i64 h')])))
  (ha:aa0.map (snp (hpx false [n] hp) (idx [n]) 6)=args:=by simp(disch:=omega)only[go_sem]) (hn:hp n=.own 0 [.sl l.length (qj l),.v (.int .i64 i),.v (.int .i64 h)]:=by simp(disch:=omega)only[go_sem]):@ZQ P f (.pt n 0::aa0) hp c ⟨K⟩:=by
 refine yr false [n] hc (by rw[List.map_cons,ha];simp[snp,idx]) (by rw[Zi,hn];rfl) rfl (qQ hn (by simp[AllL,AV.All])) (by intro m hm;rw[List.mem_singleton.1 hm];exact⟨_,List.mem_cons_self ..,rfl⟩) ?_
 rintro r hs bs ⟨rfl,hq,i',h',hi',rfl⟩-
 exact⟨⟨by simp,trivial,fun h=>by cases h⟩,hk r i' h' hi' hq⟩
theorem aKI{ks:List Nat}:∀{l:List AV},AllL (yJ []) l→leL [] ks l l
 | [],_=>trivial
 |a::r,h=>⟨⟨asL a,h.1.mono fun _ h=>h.elim⟩,aKI h.2⟩
theorem qU{vs:List AV}(i h:Int)(hq:Q (zy vs))(hi:0≤i∧i≤l.length:=by omega)(hh:hp 10000000=.own 0 [.sl l.length (qj l),.v (.int .i64 i),.v (.int .i64 h)]:=by simp(disch:=omega)only[go_sem])
  (hl:AllL (yJ []) vs:=by simp(disch:=omega)only[go_sem]):@aKU N false 1 ⟨YE l Q⟩ ⟨e⟩ vs hp:=
 qh [] [] [.own 0 [.sl l.length (qj l),.v (.int .i64 i),.v (.int .i64 h)]] vs rfl (aKI hl) ⟨⟨hh.symm,by simp[Ob.men,AllL,AV.All],trivial⟩,trivial⟩ ⟨rfl,by simp,by simp⟩ (fun h=>by cases h) ⟨rfl,hq,i,h,hi,rfl⟩
end
def bk3(l:List UInt8)(xs:List Int)(Q:AV→Prop):AV→List Ob→List Ob→Prop:=fun r hs bs=>hs=[]∧Q r∧∃i h:Int,(0≤i∧i≤l.length)∧bs=[.own 0 [.sl l.length (qj l),.v (.int .i64 i),.v (.int .i64 h)],.own 1 (qe xs)]
section
variable {P:Program}{N f c:Nat}{aa0 args:List AV}{hp:Nat→Ob}{K:KV}{Q:AV→Prop}{e:Nat→AV}{l:List UInt8}{i h:Int}
theorem jY{n m k:Nat}{xs:List Int}(hc:Con P f false [.pt 10000000 0,.rf 10000001 0 xs.length] [.own 0 [.sl l.length (qj l),.v (.int .i64 i),.v (.int .i64 h)],.own 1 (qe xs)] (bk3 l xs Q))
  (hk:∀(r:AV) (i' h':Int),(0≤i'∧i'≤l.length)→Q r→K (r.ren (rho c [n,m])) (upd (upd hp n (.own 0 [.sl l.length (qj l),.v (.int .i64 i'),.v (.int .i64 h')])) m (.own 1 (qe xs))))
  (hx:xs.length=k:=by rfl)
  (hn:hp n=.own 0 [.sl l.length (qj l),.v (.int .i64 i),.v (.int .i64 h)]:=by simp(disch:=omega)only[go_sem]) (hm:hp m=.own 1 (qe xs):=by simp(disch:=omega)only[go_sem];rfl)
  (hd:ZA [n,m]=true:=by rfl):@ZQ P f [.pt n 0,.rf m 0 k] hp c ⟨K⟩:=by
 have hnm:¬m=n:=by
  have:=(yj hd)
  simp only[List.nodup_cons,List.mem_singleton]at this
  exact fun h=>this.1 h.symm
 subst hx
 refine yr false [n,m] hc (by simp[snp,idx,hnm]) (by rw[Zi,Zi,hn,hm];simp only[Ob.ren,Jm,Zi];rfl) hd (aHw hn (by simp[AllL,AV.All]) hm Z2) (by intro q hq;simp only[List.mem_cons,List.not_mem_nil,or_false]at hq;rcases hq with rfl|rfl<;>simp[AV.top]) ?_
 rintro r hs bs ⟨rfl,hq,i',h',hi',rfl⟩-
 refine⟨⟨by simp,trivial,fun h=>by cases h⟩,?_⟩
 have:=hk r i' h' hi' hq
 simp only[List.map_cons,List.map_nil,Ob.ren,Jm]
 exact this
end
section
variable (l:List UInt8)(hl:l.length≤9223372036854775807)(i h:Int)(hi:0≤i∧i≤l.length)
include hl hi
theorem yq:Con Tryz.prog 243 false [.pt 10000000 0] [.own 0 [.sl l.length (qj l),.v (.int .i64 i),.v (.int .i64 h)]] (YE l fun r=>∃k:Int,(0≤k∧k≤255)∧r=.v (.int .i64 k)):=by
 refine Con.of_aw Tryz.func243 rfl Tryz.ntmps243 (by simp) (by simp) (by simp) (W.sound ?_)
 show @W Tryz.prog 58 ⟨_⟩ ⟨fun x σ=>@q8 _ _ _ ⟨_⟩ _ ⟨_⟩ x σ⟩ _ _
 simp(disch:=omega)only[go_sem]
 generalize IntKind.i64.wrap (IntKind.i64.wrap (h*6364136223846793005)+1442695040888963407)=h1
 refine qv rfl [⟨0,[],[]⟩,⟨1,[],[]⟩,⟨2,[],[]⟩,⟨3,[],[]⟩,⟨4,[],[]⟩,⟨5,[3],[]⟩,⟨6,[3],[]⟩,⟨7,[3],[]⟩,⟨8,[3],[]⟩,⟨9,[3],[]⟩,⟨10,[],[]⟩,⟨11,[],[]⟩,⟨12,[],[]⟩] (by kernel_rfl) ?_
 simp(disch:=omega)only[go_sem]
 generalize bkQ (h1.fdiv (2^min 33 64)) (h1.fdiv (2^min 45 64))=y
 have hy:0≤y % 256∧y % 256<256:=by omega
 generalize y % 256=x at*
 refine qv rfl [⟨0,[],[]⟩,⟨1,[],[]⟩,⟨2,[],[]⟩,⟨3,[],[]⟩,⟨4,[3],[]⟩,⟨5,[3],[]⟩,⟨6,[3],[]⟩,⟨7,[3],[]⟩,⟨8,[3],[]⟩,⟨9,[],[]⟩] (by kernel_rfl) ?_
 simp(disch:=omega)only[go_sem]
 refine qg (fun c1=>?_) (fun c1=>?_)
 ·simp(disch:=omega)only[go_sem,c1]
  refine qv rfl [⟨0,[],[]⟩,⟨1,[],[]⟩,⟨2,[],[]⟩,⟨3,[],[]⟩,⟨4,[],[]⟩,⟨5,[4],[]⟩,⟨6,[4],[]⟩,⟨7,[4],[]⟩,⟨8,[4],[]⟩,⟨9,[],[]⟩,⟨10,[],[]⟩,⟨11,[],[]⟩,⟨12,[],[]⟩,⟨13,[],[]⟩,⟨14,[],[]⟩] (by kernel_rfl) ?_
  simp(disch:=omega)only[go_sem]
  refine⟨by omega,by omega,?_⟩
  generalize IntKind.i64.wrap (x+IntKind.i64.wrap ((l.getD i.toNat 0).toNat:Int))=y2
  have hy2:0≤y2 % 256∧y2 % 256<256:=by omega
  refine qU (i+1) (h1) ⟨_,by omega,rfl⟩
 ·simp(disch:=omega)only[go_sem,c1]
  refine qU (i) (h1) ⟨_,by omega,rfl⟩
theorem qN(n:Int)(hn:n≤2^62):Con Tryz.prog 155 false [.pt 10000000 0,.v (.int .i64 n)] [.own 0 [.sl l.length (qj l),.v (.int .i64 i),.v (.int .i64 h)]] (YE l fun r=>∃k:Int,(0≤k∧(0<n→k<n))∧r=.v (.int .i64 k)):=by
 refine Con.of_aw Tryz.func155 rfl Tryz.ntmps155 (by simp) (by simp) (by simp) (W.sound ?_)
 show @W Tryz.prog 37 ⟨_⟩ ⟨fun x σ=>@q8 _ _ _ ⟨_⟩ _ ⟨_⟩ x σ⟩ _ _
 simp(disch:=omega)only[go_sem]
 refine qg (fun c1=>?_) (fun c1=>?_)
 ·simp(disch:=omega)only[go_sem,c1]
  refine qU (i) (h) ⟨_,⟨by omega,fun h=>by omega⟩,rfl⟩
 ·simp(disch:=omega)only[go_sem,c1]
  refine qg (fun c2=>?_) (fun c2=>?_)
  ·simp(disch:=omega)only[go_sem,c2]
   refine qx (yq l hl i h hi) ?_
   rintro r i1 h1 hi1 ⟨k1,hk1,rfl⟩
   simp(disch:=omega)only[go_sem]
   refine⟨by omega,?_⟩
   have hm:=Int.emod_nonneg k1 (show n≠0 by omega)
   have hm2:=Int.emod_lt_of_pos k1 (show 0<n by omega)
   refine qU (i1) (h1) ⟨_,⟨hm,fun _=>hm2⟩,rfl⟩
  ·simp(disch:=omega)only[go_sem,c2]
   refine qx (yq l hl i h hi) ?_
   rintro r i1 h1 hi1 ⟨k1,hk1,rfl⟩
   simp(disch:=omega)only[go_sem]
   refine qx (yq l hl i1 h1 hi1) ?_
   rintro r i2 h2 hi2 ⟨k2,hk2,rfl⟩
   simp(disch:=omega)only[go_sem]
   refine qx (yq l hl i2 h2 hi2) ?_
   rintro r i3 h3 hi3 ⟨k3,hk3,rfl⟩
   simp(disch:=omega)only[go_sem]
   refine qx (yq l hl i3 h3 hi3) ?_
   rintro r i4 h4 hi4 ⟨k4,hk4,rfl⟩
   simp(disch:=omega)only[go_sem]
   refine⟨by omega,?_⟩
   have hm:=Int.emod_nonneg (k1*16777216+k2*65536+k3*256+k4) (show n≠0 by omega)
   have hm2:=Int.emod_lt_of_pos (k1*16777216+k2*65536+k3*256+k4) (show 0<n by omega)
   refine qU (i4) (h4) ⟨_,⟨hm,fun _=>hm2⟩,rfl⟩
theorem qW(n:Int)(hn:n≤2^62):Con Tryz.prog 99 false [.pt 10000000 0,.v (.int .i64 n)] [.own 0 [.sl l.length (qj l),.v (.int .i64 i),.v (.int .i64 h)]] (YE l fun r=>∃b:Bool,r=.v (.bool b)):=by
 refine Con.of_aw Tryz.func99 rfl Tryz.ntmps99 (by simp) (by simp) (by simp) (W.sound ?_)
 show @W Tryz.prog 9 ⟨_⟩ ⟨fun x σ=>@q8 _ _ _ ⟨_⟩ _ ⟨_⟩ x σ⟩ _ _
 simp(disch:=omega)only[go_sem]
 refine qx (qN l hl i h hi n hn) ?_
 rintro r i1 h1 hi1 ⟨k1,hk1,rfl⟩
 simp(disch:=omega)only[go_sem]
 refine qU (i1) (h1) ⟨_,rfl⟩
theorem zC(xs:List Int)(h0:0<xs.length)(h1:xs.length≤2^40):Con Tryz.prog 101 false [.pt 10000000 0,.rf 10000001 0 xs.length] [.own 0 [.sl l.length (qj l),.v (.int .i64 i),.v (.int .i64 h)],.own 1 (qe xs)] (bk3 l xs fun r=>∃x∈xs,r=.v (.int .i64 x)):=by
 refine Con.of_aw Tryz.func101 rfl Tryz.ntmps101 (by simp) (by simp) (by simp) (W.sound ?_)
 show @W Tryz.prog 12 ⟨_⟩ ⟨fun x σ=>@q8 _ _ _ ⟨_⟩ _ ⟨_⟩ x σ⟩ _ _
 simp(disch:=omega)only[go_sem]
 refine qx (qN l hl i h hi xs.length (by omega)) ?_
 rintro r i1 h1 hi1 ⟨k1,hk1,rfl⟩
 simp(disch:=omega)only[go_sem]
 obtain⟨n1,rfl⟩:=Int.eq_ofNat_of_zero_le hk1.1
 have hlt:n1<xs.length:=by have:=hk1.2 (by omega);omega
 simp(disch:=omega)only[go_sem]
 refine⟨by omega,by omega,?_⟩
 have hm:xs.getD n1 0∈xs:=by rw[List.getD_eq_getElem?_getD,List.getElem?_eq_getElem hlt];exact List.getElem_mem _
 refine qh [] [] [.own 0 [.sl l.length (qj l),.v (.int .i64 i1),.v (.int .i64 h1)],.own 1 (qe xs)] [.v (.int .i64 (xs.getD n1 0))] rfl (by simp(disch:=omega)only[go_sem]) (by simp(disch:=omega)only[go_sem]) (by simp) (by simp) ⟨rfl,⟨_,hm,rfl⟩,_,_,by omega,rfl⟩
end
end Go.Ab
namespace Go.Ab
open Go Go.Proofs
section
variable (l:List UInt8)(hl:l.length≤9223372036854775807)(i h:Int)(hi:0≤i∧i≤l.length)
include hl hi
theorem XM:Con Tryz.prog 326 false [.pt 10000000 0] [.own 0 [.sl l.length (qj l),.v (.int .i64 i),.v (.int .i64 h)]] (YE l fun r=>∃k:Int,(0≤k∧k≤100)∧r=.v (.int .i64 k)):=by
 refine Con.of_aw Tryz.func326 rfl Tryz.ntmps326 (by simp) (by simp) (by simp) (W.sound ?_)
 show @W Tryz.prog 10 ⟨_⟩ ⟨fun x σ=>@q8 _ _ _ ⟨_⟩ _ ⟨_⟩ x σ⟩ _ _
 simp(disch:=omega)only[go_sem]
 refine qx (qW l hl i h hi 12 (by omega)) ?_
 rintro r i1 h1 hi1 ⟨b,rfl⟩
 simp(disch:=omega)only[go_sem]
 cases b
 ·simp(disch:=omega)only[go_sem]
  refine qx (qN l hl i1 h1 hi1 6 (by omega)) ?_
  rintro r i2 h2 hi2 ⟨k,hk,rfl⟩
  simp(disch:=omega)only[go_sem]
  have:=hk.2 (by omega)
  refine qU (i2) (h2) ⟨_,by omega,rfl⟩
 ·simp(disch:=omega)only[go_sem]
  refine jY (zC l hl i1 h1 hi1 [100,99,50,20] (by simp) (by simp)) ?_
  rintro r i2 h2 hi2 ⟨x,hx,rfl⟩
  have hx_b:0≤x∧x≤100:=by
   simp only[List.mem_cons,List.not_mem_nil,or_false]at hx
   omega
  clear hx
  simp(disch:=omega)only[go_sem]
  refine qU (i2) (h2) ⟨_,by omega,rfl⟩
theorem YN:Con Tryz.prog 312 false [.pt 10000000 0] [.own 0 [.sl l.length (qj l),.v (.int .i64 i),.v (.int .i64 h)]] (fun r hs bs=>(∃m:Nat,bl m≤1600∧aQR m r hs [])∧∃i h:Int,(0≤i∧i≤l.length)∧bs=[.own 0 [.sl l.length (qj l),.v (.int .i64 i),.v (.int .i64 h)]]):=by
 refine Con.of_aw Tryz.func312 rfl Tryz.ntmps312 (by simp) (by simp) (by simp) (W.sound ?_)
 show @W Tryz.prog 38 ⟨_⟩ ⟨fun x σ=>@q8 _ _ _ ⟨_⟩ _ ⟨_⟩ x σ⟩ _ _
 simp(disch:=omega)only[go_sem]
 refine qx (XM l hl i h hi) ?_
 rintro r i1 h1 hi1 ⟨k,hk,rfl⟩
 simp(disch:=omega)only[go_sem]
 refine qi (fun x:Nat×List Int×Int×Int=>[(0,.pt 10000000 0),(2,.pt 2 0),(3,.rf 1 0 x.2.1.length),(4,.v (.int .i64 k)),(5,.v (.int .i64 x.1))])
  (fun x=>[(1,.own 1 (qe x.2.1)),(2,.own 0 [.v (.slice none 0 0)]),(10000000,.own 0 [.sl l.length (qj l),.v (.int .i64 x.2.2.1),.v (.int .i64 x.2.2.2)])])
  (fun x=>x.1≤k.toNat∧x.2.1.length=x.1∧gd x.2.1∧(0≤x.2.2.1∧x.2.2.1≤l.length)) (fun x=>k.toNat-x.1) (0,[],i1,h1) ⟨by simp,rfl,by simp[gd],hi1⟩
  ((Le.ghost 3 1 1 (by simp(disch:=omega)only[go_sem]) (by simp(disch:=omega)only[go_sem])).trans (Le.lst [(2,40000000)] _ _ rfl (by simp(disch:=omega)only[go_sem]) (by simp(disch:=omega)only[go_sem]))) ?_
 rintro⟨j,xs,i2,h2⟩ ⟨hj,hxl,hg,hi2⟩
 dsimp only at hj hxl hg hi2 ⊢
 simp(disch:=omega)only[go_sem]
 refine qg (fun c1=>?_) (fun c1=>?_)
 ·simp(disch:=omega)only[go_sem,c1]
  refine qx (qN l hl i2 h2 hi2 4 (by omega)) ?_
  rintro r i3 h3 hi3 ⟨q,hq,rfl⟩
  simp(disch:=omega)only[go_sem]
  by_cases q0:q=0
  ·simp(disch:=omega)only[go_sem,q0]
   exact⟨by omega,qb (j+1,xs++[65535],i3,h3) [(1,260000000)] ⟨by dsimp only;omega,by simp[hxl],qP.2 ⟨hg,by simp[gd]⟩,hi3⟩ (by show k.toNat-(j+1)<k.toNat-j;omega) rfl (by simp(disch:=omega)only[go_sem,List.length_append];try omega) (by simp(disch:=omega)only[go_sem])⟩
  by_cases q1:q=1
  ·simp(disch:=omega)only[go_sem,q0,q1]
   exact⟨by omega,qb (j+1,xs++[0],i3,h3) [(1,310000000)] ⟨by dsimp only;omega,by simp[hxl],qP.2 ⟨hg,by simp[gd]⟩,hi3⟩ (by show k.toNat-(j+1)<k.toNat-j;omega) rfl (by simp(disch:=omega)only[go_sem,List.length_append];try omega) (by simp(disch:=omega)only[go_sem])⟩
  simp(disch:=omega)only[go_sem,q0,q1]
  refine qx (qN l hl i3 h3 hi3 65536 (by omega)) ?_
  rintro r i4 h4 hi4 ⟨d,hd,rfl⟩
  simp(disch:=omega)only[go_sem]
  have hd2:=hd.2 (by omega)
  exact⟨by omega,qb (j+1,xs++[d],i4,h4) [(1,210000000)] ⟨by dsimp only;omega,by simp[hxl],qP.2 ⟨hg,Zl.2 ⟨by omega,by simp[gd]⟩⟩,hi4⟩ (by show k.toNat-(j+1)<k.toNat-j;omega) rfl (by simp(disch:=omega)only[go_sem,List.length_append];try omega) (by simp(disch:=omega)only[go_sem])⟩
 ·simp(disch:=omega)only[go_sem,c1]
  refine qx (qW l hl i2 h2 hi2 4 (by omega)) ?_
  rintro r i3 h3 hi3 ⟨b,rfl⟩
  simp(disch:=omega)only[go_sem]
  cases b
  ·simp(disch:=omega)only[go_sem]
   have hv:vl xs=((vl xs).toNat:Int):=(Int.toNat_of_nonneg (q6 hg)).symm
   have hb:bl (vl xs).toNat≤1600:=by
    refine zf.2 ?_
    have h1:=ZK hg
    have h2:(65536:Int)^xs.length≤65536^100:=by
     rw[show(65536:Int)=((65536:Nat):Int) from rfl,←Int.natCast_pow,←Int.natCast_pow]
     exact Int.ofNat_le.2 (Nat.pow_le_pow_right (by omega) (by omega))
    have h3:(65536:Int)^100=((2^1600:Nat):Int):=by decide+kernel
    omega
   generalize (vl xs).toNat=m at*
   refine qD (yp true xs m (by omega) hg hv) (by simp(disch:=omega)only[go_sem]) ?_
   rintro r hs (⟨h0,rfl,rfl⟩|⟨zs,rfl,rfl⟩)
   ·refine⟨⟨by simp,by simp(disch:=omega)only[go_sem]⟩,?_⟩
    simp(disch:=omega)only[go_sem]
    refine qh [] [] [.own 0 [.sl l.length (qj l),.v (.int .i64 i3),.v (.int .i64 h3)]] [.ag [.v (.slice none 0 0)]] rfl (by simp(disch:=omega)only[go_sem]) (by simp(disch:=omega)only[go_sem]) (by simp) (by simp) ⟨⟨m,hb,.inl ⟨h0,rfl,rfl⟩⟩,_,_,hi3,rfl⟩
   ·refine⟨⟨by simp,by simp(disch:=omega)only[go_sem]⟩,?_⟩
    simp(disch:=omega)only[go_sem]
    refine qh [(0,390000000)] [.own 1 (qe (lim m++zs))] [.own 0 [.sl l.length (qj l),.v (.int .i64 i3),.v (.int .i64 h3)]] [.ag [.rf 0 0 (lim m).length]] rfl (by simp(disch:=omega)only[go_sem]) (by simp(disch:=omega)only[go_sem]) (by simp) (by simp) ⟨⟨m,hb,.inr ⟨zs,rfl,rfl⟩⟩,_,_,hi3,rfl⟩
  ·simp(disch:=omega)only[go_sem]
   refine jY (zC l hl i3 h3 hi3 [0,1,2,9,10,65535,65536,1099511627776,4611686018427387903,4611686018427387904] (by simp) (by simp)) ?_
   rintro r i4 h4 hi4 ⟨x,hx,rfl⟩
   have hx_b:0≤x∧x≤4611686018427387904:=by
    simp only[List.mem_cons,List.not_mem_nil,or_false]at hx
    omega
   clear hx
   simp(disch:=omega)only[go_sem]
   obtain⟨n,rfl⟩:=Int.eq_ofNat_of_zero_le hx_b.1
   have hb:bl n≤1600:=Nat.le_trans (show bl n≤63 from zf.2 (by omega)) (by omega)
   refine qD (XL true n (by omega)) (by simp(disch:=omega)only[go_sem]) ?_
   rintro r hs (⟨h0,rfl,rfl⟩|⟨zs,rfl,rfl⟩)
   ·refine⟨⟨by simp,by simp(disch:=omega)only[go_sem]⟩,?_⟩
    simp(disch:=omega)only[go_sem]
    refine qh [] [] [.own 0 [.sl l.length (qj l),.v (.int .i64 i4),.v (.int .i64 h4)]] [.ag [.v (.slice none 0 0)]] rfl (by simp(disch:=omega)only[go_sem]) (by simp(disch:=omega)only[go_sem]) (by simp) (by simp) ⟨⟨n,hb,.inl ⟨h0,rfl,rfl⟩⟩,_,_,hi4,rfl⟩
   ·refine⟨⟨by simp,by simp(disch:=omega)only[go_sem]⟩,?_⟩
    simp(disch:=omega)only[go_sem]
    refine qh [(0,370000000)] [.own 1 (qe (lim n++zs))] [.own 0 [.sl l.length (qj l),.v (.int .i64 i4),.v (.int .i64 h4)]] [.ag [.rf 0 0 (lim n).length]] rfl (by simp(disch:=omega)only[go_sem]) (by simp(disch:=omega)only[go_sem]) (by simp) (by simp) ⟨⟨n,hb,.inr ⟨zs,rfl,rfl⟩⟩,_,_,hi4,rfl⟩
end
end Go.Ab
namespace Go.Ab
open Go Go.Proofs
end Go.Ab
namespace Go.Ab
open Go Go.Proofs
end Go.Ab
namespace Go.Ab
open Go Go.Proofs
def awV(s:Bool)(m e:Int):FlV:=if m<9007199254740991 then⟨1,s,m+1,e⟩else if e<971 then⟨1,s,4503599627370496,e+1⟩else⟨2,s,0,0⟩
def toV(k:Int)(s:Bool)(m e:Int):FlV:=if k=2 then⟨1,s,9007199254740991,971⟩else if 4503599627370496<m∨(e= -1074∧1<m)then⟨k,s,m-1,e⟩else if-1074<e then⟨k,s,9007199254740991,e-1⟩else⟨0,s,0,0⟩
def nxV(k:Int)(s:Bool)(m e:Int):FlV:=if k=3∨(k=2∧s=false)then⟨k,s,m,e⟩else if k=0 then⟨1,false,1, -1074⟩else if s=true then toV k s m e else awV s m e
def ulE(k e:Int):Int:=if k=0 then-1074 else e
end Go.Ab
namespace Go.Ab
structure Adj(k:Int)(s:Bool)(m e:Int)(n:FlV)(t:Bool)(a:Nat)(E:Int):Prop where
 ha:a<2^53
 hf:2^52≤a∨E= -1074
 hE: -1074≤E∧E≤971
 ho:¬(a+1=2^53∧E=971)
 hu:E≤ulE k e
 lo:dv 1074 (xS k s) m.toNat e=dv 1074 t (if t=true then a+1 else a) E
 hi:dv 1074 (xS n.k n.s) n.m.toNat n.e=dv 1074 t (if t=true then a else a+1) E
theorem bn8:ngS 1 false=true:=rfl
theorem bn6:ngS 1 true=false:=rfl
theorem bn7:ngS 2 false=true:=rfl
end Go.Ab
namespace Go.Ab
open Go Go.Proofs
theorem aud{n:Nat}{e:Int}(hn:bl n≤1500)(he: -3000≤e∧e≤1400):jJ n e=true:=by
 have q4:=jC (aG0 n)
 have l1:=qI (m:=oM n) (B:=1500) (by omega)
 have q5: -3000≤oE n e∧oE n e≤3000:=by
  unfold oE
  by_cases h:n=0
  ·rw[if_pos h];omega
  ·rw[if_neg h];have:=yv h;omega
 unfold jJ jU
 simp only[Bool.and_eq_true,decide_eq_true_eq]
 omega
def bnd(ok:Bool):AV→List Ob→List Ob→Prop:=fun r hs bs=>hs=[]∧bs=[]∧∃(S:Bool) (M:Nat) (E:Int) (b:Bool),dyB S (lim M) E=true∧(ok=false→b=false)∧r=.tu [.ag [.v (.bool (S)),.sl (lim (M)).length (qe (lim (M))),.v (.int .i64 (E))],.v (.bool b)]
end Go.Ab
namespace Go.Ab
def ivM(s:Bool)(m:Nat)(e mode:Int):Nat:=roM s m e 0 mode*2^(roE m e 0).toNat
end Go.Ab
namespace Go.Ab
open Go Go.Proofs
end Go.Ab
namespace Go.Ab
open Go Go.Proofs
end Go.Ab
namespace Go.Ab
open Go Go.Proofs
end Go.Ab
namespace Go.Ab
open Go Go.Proofs
def bog(k m:Int):Nat:=if k=1 then oM m.toNat else 0
def boh(k m e:Int):Int:=if k=1 then oE m.toNat e else 0
def bof(k:Int)(s:Bool)(m:Int):Bool:=if k=1 then oS (s&&decide (m.toNat≠0)) m.toNat else false
end Go.Ab
namespace Go.Ab
open Go Go.Proofs
def bnc:AV→List Ob→List Ob→Prop:=fun r hs bs=>hs=[]∧bs=[]∧∃x:FlV,r=.ag x.cs
section
variable (l:List UInt8)(hl:l.length≤9223372036854775807)(i h:Int)(hi:0≤i∧i≤l.length)
include hl hi
end
end Go.Ab
namespace Go.Ab
open Go Go.Proofs
section
variable (l:List UInt8)(hl:l.length≤9223372036854775807)(i h:Int)(hi:0≤i∧i≤l.length)
include hl hi
end
end Go.Ab
namespace Go.Ab
open Go
end Go.Ab
namespace Go.Ab
open Go Go.Proofs
end Go.Ab
namespace Go.Ab
open Go Go.Proofs
end Go.Ab
namespace Go.Ab
open Go Go.Proofs
section
variable (l:List UInt8)(hl:l.length≤9223372036854775807)(i h:Int)(hi:0≤i∧i≤l.length)
include hl hi
end
theorem auG(l:List UInt8)(hl:l.length≤9223372036854775807):Con Tryz.prog 66 false [.sl l.length (qj l)] [] (fun r hs bs=>r=.pt 0 0∧bs=[]∧∃h:Int,hs=[.own 0 [.sl l.length (qj l),.v (.int .i64 0),.v (.int .i64 h)]]):=by
 refine Con.of_aw Tryz.func66 rfl Tryz.ntmps66 (by simp) (by simp) (by simp) (W.sound ?_)
 show @W Tryz.prog 32 ⟨_⟩ ⟨fun x σ=>@q8 _ _ _ ⟨_⟩ _ ⟨_⟩ x σ⟩ _ _
 simp(disch:=omega)only[go_sem]
 refine qi (fun x:Nat×Int=>[(0,.sl l.length (qj l)),(3,.v (.int .i64 x.2)),(4,.v (.int .i64 x.1))]) (fun _=>[]) (fun x=>x.1≤l.length) (fun x=>l.length-x.1) (0,IntKind.i64.wrap (38282+l.length)) (by simp)
  (Le.lst [] _ _ rfl (by simp(disch:=omega)only[go_sem]) (by simp(disch:=omega)only[go_sem])) ?_
 rintro⟨i,h⟩ hi
 dsimp only at hi ⊢
 have hfin:∀l':List AV,l'=[.pt 0 0]→(fun r hs bs=>r=.pt 0 0∧bs=[]∧∃h:Int,hs=[.own 0 [.sl l.length (qj l),.v (.int .i64 0),.v (.int .i64 h)]]:AV→List Ob→List Ob→Prop) (zy l') [.own 0 [.sl l.length (qj l),.v (.int .i64 0),.v (.int .i64 h)]] []:=fun l' e=>by subst e;exact⟨rfl,rfl,h,rfl⟩
 by_cases h1:(i:Int)<l.length
 ·by_cases h2:(i:Int)<4000
  ·simp(disch:=omega)only[go_sem,h1,h2]
   generalize IntKind.i64.wrap (IntKind.i64.wrap (IntKind.i64.wrap (h*131)+IntKind.i64.wrap ((l.getD i 0).toNat:Int))+7) % 1073741824=h'
   exact⟨⟨by omega,by omega⟩,by omega,qb (i+1,h') [] (by show i+1≤_;omega) (by show l.length-(i+1)<l.length-i;omega) rfl (by simp(disch:=omega)only[go_sem];try omega) (by simp(disch:=omega)only[go_sem])⟩
  ·simp(disch:=omega)only[go_sem,h1,h2]
   refine qh [(0,330000000)] [.own 0 [.sl l.length (qj l),.v (.int .i64 0),.v (.int .i64 h)]] [] [.pt 0 0] rfl (by simp(disch:=omega)only[go_sem]) (by simp(disch:=omega)only[go_sem]) (by simp) (by simp) (hfin _ rfl)
 ·simp(disch:=omega)only[go_sem,h1]
  refine qh [(0,330000000)] [.own 0 [.sl l.length (qj l),.v (.int .i64 0),.v (.int .i64 h)]] [] [.pt 0 0] rfl (by simp(disch:=omega)only[go_sem]) (by simp(disch:=omega)only[go_sem]) (by simp) (by simp) (hfin _ rfl)
end Go.Ab
namespace Go.Ab
open Go Go.Proofs
end Go.Ab
namespace Go.Ab
open Go Go.Proofs
end Go.Ab
namespace Go.Ab
open Go Go.Proofs
end Go.Ab
namespace Go.Ab
open Go Go.Proofs
end Go.Ab
namespace Go.Ab
open Go Go.Proofs
theorem Q5{s:Bool}{m:Nat}(h:(lim m).length≤100)(hs:m=0→s=false):zY s (lim m)=true:=by
 unfold zY
 rw[as7 m h,Bool.true_and]
 by_cases h0:m=0
 ·rw[hs h0];rfl
 ·have:=QT h0
  rw[decide_eq_false (show ¬(lim m).length=0 by omega),Bool.and_false];rfl
end Go.Ab
namespace Go.Ab
open Go Go.Proofs
def bh8(r:AV)(hs:List Ob)(xs:List Int):Prop:=(xs=[]∧r=.ag [.v (.slice none 0 0)]∧hs=[])∨∃zs,r=.ag [.rf 0 0 xs.length]∧hs=[.own 1 (qe (xs++zs))]
section
variable (l:List UInt8)(hl:l.length≤9223372036854775807)(i h:Int)(hi:0≤i∧i≤l.length)
include hl hi
theorem agn:Con Tryz.prog 275 false [.pt 10000000 0] [.own 0 [.sl l.length (qj l),.v (.int .i64 i),.v (.int .i64 h)]] (fun r hs bs=>(∃xs:List Int,xs.length≤200∧bh8 r hs xs)∧∃i h:Int,(0≤i∧i≤l.length)∧bs=[.own 0 [.sl l.length (qj l),.v (.int .i64 i),.v (.int .i64 h)]]):=by
 refine Con.of_aw Tryz.func275 rfl Tryz.ntmps275 (by simp) (by simp) (by simp) (W.sound ?_)
 show @W Tryz.prog 43 ⟨_⟩ ⟨fun x σ=>@q8 _ _ _ ⟨_⟩ _ ⟨_⟩ x σ⟩ _ _
 simp(disch:=omega)only[go_sem]
 refine yr false [10000000] (YN l hl i h hi) (by simp(disch:=omega)only[go_sem]) (by simp(disch:=omega)only[go_sem]) rfl (qQ (z:=0) (cs:=[.sl l.length (qj l),.v (.int .i64 i),.v (.int .i64 h)]) (by simp(disch:=omega)only[go_sem]) (by simp(disch:=omega)only[go_sem])) (by intro n hn;exact⟨_,List.mem_cons_self ..,by rw[List.mem_singleton.1 hn];rfl⟩) ?_
 rintro r hs bs ⟨⟨m,hb,(⟨h0,rfl,rfl⟩|⟨zs,rfl,rfl⟩)⟩,i1,h1,hi1,rfl⟩-
 ·refine⟨by simp[qR],?_⟩
  simp(disch:=omega)only[go_sem]
  refine qx (qW l hl i1 h1 hi1 9 (by omega)) ?_
  rintro r i2 h2 hi2 ⟨b,rfl⟩
  simp(disch:=omega)only[go_sem]
  cases b
  ·simp(disch:=omega)only[go_sem]
   refine qh [] [] [.own 0 [.sl l.length (qj l),.v (.int .i64 i2),.v (.int .i64 h2)]] [.ag [.v (.slice none 0 0)]] rfl (by simp(disch:=omega)only[go_sem]) (by simp(disch:=omega)only[go_sem]) (by simp) (by simp) ⟨⟨[],by simp,.inl ⟨rfl,rfl,rfl⟩⟩,_,_,hi2,rfl⟩
  ·simp(disch:=omega)only[go_sem]
   refine qx (qN l hl i2 h2 hi2 4 (by omega)) ?_
   rintro r i3 h3 hi3 ⟨q,hq,rfl⟩
   simp(disch:=omega)only[go_sem]
   by_cases c0:q=0
   ·simp(disch:=omega)only[go_sem,c0]
    refine qh [(0,280000000)] [.own 1 (qe ([0]++[]))] [.own 0 [.sl l.length (qj l),.v (.int .i64 i3),.v (.int .i64 h3)]] [.ag [.rf 0 0 1]] rfl (by simp(disch:=omega)only[go_sem]) (by simp(disch:=omega)only[go_sem];rfl) (by simp) (by simp) ⟨⟨[0],by simp,.inr ⟨[],rfl,rfl⟩⟩,_,_,hi3,rfl⟩
   by_cases c1:q=1
   ·simp(disch:=omega)only[go_sem,c0,c1]
    refine qh [(0,350000000)] [.own 1 (qe ([-1]++[]))] [.own 0 [.sl l.length (qj l),.v (.int .i64 i3),.v (.int .i64 h3)]] [.ag [.rf 0 0 1]] rfl (by simp(disch:=omega)only[go_sem]) (by simp(disch:=omega)only[go_sem];rfl) (by simp) (by simp) ⟨⟨[-1],by simp,.inr ⟨[],rfl,rfl⟩⟩,_,_,hi3,rfl⟩
   by_cases c2:q=2
   ·simp(disch:=omega)only[go_sem,c0,c1,c2]
    refine qh [(0,420000000)] [.own 1 (qe ([65536]++[]))] [.own 0 [.sl l.length (qj l),.v (.int .i64 i3),.v (.int .i64 h3)]] [.ag [.rf 0 0 1]] rfl (by simp(disch:=omega)only[go_sem]) (by simp(disch:=omega)only[go_sem];rfl) (by simp) (by simp) ⟨⟨[65536],by simp,.inr ⟨[],rfl,rfl⟩⟩,_,_,hi3,rfl⟩
   simp(disch:=omega)only[go_sem,c0,c1,c2]
   refine qi (fun x:List Int×List Int=>[(2,.pt 4 0),(3,.pt 3 0)]) (fun x=>[(1,.own 1 (qe (x.1++x.2))),(3,.own 0 [.rf 1 0 x.1.length]),(4,.own 0 [.v (.slice none 0 0)]),(10000000,.own 0 [.sl l.length (qj l),.v (.int .i64 i3),.v (.int .i64 h3)])])
    (fun x=>x.1.length≤101) (fun x=>101-x.1.length) ([],[])
    (by simp) ((Le.ghostC 50000000 0 1 1 (zo:=0) (cs:=[.v (.slice none 0 0)]) (by simp(disch:=omega)only[go_sem]) rfl (by simp(disch:=omega)only[go_sem])).trans (Le.lst [(3,50000000),(4,40000000)] _ _ rfl (by simp(disch:=omega)only[go_sem]) (by simp(disch:=omega)only[go_sem,List.set_cons_zero]))) ?_
   rintro⟨xs,ys⟩ hx
   dsimp only at hx ⊢
   simp(disch:=omega)only[go_sem]
   refine qg (fun c3=>?_) (fun c3=>?_)
   ·simp(disch:=omega)only[go_sem,c3]
    exact⟨⟨by simp,by omega⟩,qb (xs++[1],[]) [(1,210000000)] (by simp;omega) (by simp;omega) rfl (by simp(disch:=omega)only[go_sem,List.length_append];try omega) (by simp(disch:=omega)only[go_sem,List.length_append,List.append_nil,List.take_left])⟩
   ·simp(disch:=omega)only[go_sem,c3]
    refine qh [(0,1)] [.own 1 (qe (xs++ys))] [.own 0 [.sl l.length (qj l),.v (.int .i64 i3),.v (.int .i64 h3)]] [.ag [.rf 0 0 xs.length]] rfl (by simp(disch:=omega)only[go_sem]) (by simp(disch:=omega)only[go_sem]) (by simp) (by simp) ⟨⟨xs,by omega,.inr ⟨ys,rfl,rfl⟩⟩,_,_,hi3,rfl⟩
 ·have hx:=qI (m:=m) (B:=1600) hb
  refine⟨by simp[qR];simp(disch:=omega)only[go_sem],?_⟩
  simp(disch:=omega)only[go_sem]
  refine qx (qW l hl i1 h1 hi1 9 (by omega)) ?_
  rintro r i2 h2 hi2 ⟨b,rfl⟩
  simp(disch:=omega)only[go_sem]
  cases b
  ·simp(disch:=omega)only[go_sem]
   refine qh [(0,70000000)] [.own 1 (qe (lim m++zs))] [.own 0 [.sl l.length (qj l),.v (.int .i64 i2),.v (.int .i64 h2)]] [.ag [.rf 0 0 (lim m).length]] rfl (by simp(disch:=omega)only[go_sem]) (by simp(disch:=omega)only[go_sem]) (by simp) (by simp) ⟨⟨lim m,by have:=qI (m:=m) (B:=1600) hb;omega,.inr ⟨zs,rfl,rfl⟩⟩,_,_,hi2,rfl⟩
  ·simp(disch:=omega)only[go_sem]
   refine qx (qN l hl i2 h2 hi2 4 (by omega)) ?_
   rintro r i3 h3 hi3 ⟨q,hq,rfl⟩
   simp(disch:=omega)only[go_sem]
   by_cases c0:q=0
   ·simp(disch:=omega)only[go_sem,c0]
    exact⟨⟨by simp,by omega⟩,qh [(0,280000000)] [.own 1 (qe (lim m++[0]++[]))] [.own 0 [.sl l.length (qj l),.v (.int .i64 i3),.v (.int .i64 h3)]] [.ag [.rf 0 0 ((lim m).length+1)]] rfl (by simp(disch:=omega)only[go_sem]) (by simp(disch:=omega)only[go_sem,List.take_left',List.append_nil]) (by simp) (by simp) ⟨⟨lim m++[0],by simp;omega,.inr ⟨[],by rw[List.length_append];rfl,rfl⟩⟩,_,_,hi3,rfl⟩⟩
   by_cases c1:q=1
   ·simp(disch:=omega)only[go_sem,c0,c1]
    exact⟨⟨by simp,by omega⟩,qh [(0,350000000)] [.own 1 (qe (lim m++[-1]++[]))] [.own 0 [.sl l.length (qj l),.v (.int .i64 i3),.v (.int .i64 h3)]] [.ag [.rf 0 0 ((lim m).length+1)]] rfl (by simp(disch:=omega)only[go_sem]) (by simp(disch:=omega)only[go_sem,List.take_left',List.append_nil]) (by simp) (by simp) ⟨⟨lim m++[-1],by simp;omega,.inr ⟨[],by rw[List.length_append];rfl,rfl⟩⟩,_,_,hi3,rfl⟩⟩
   by_cases c2:q=2
   ·simp(disch:=omega)only[go_sem,c0,c1,c2]
    exact⟨⟨by simp,by omega⟩,qh [(0,420000000)] [.own 1 (qe (lim m++[65536]++[]))] [.own 0 [.sl l.length (qj l),.v (.int .i64 i3),.v (.int .i64 h3)]] [.ag [.rf 0 0 ((lim m).length+1)]] rfl (by simp(disch:=omega)only[go_sem]) (by simp(disch:=omega)only[go_sem,List.take_left',List.append_nil]) (by simp) (by simp) ⟨⟨lim m++[65536],by simp;omega,.inr ⟨[],by rw[List.length_append];rfl,rfl⟩⟩,_,_,hi3,rfl⟩⟩
   simp(disch:=omega)only[go_sem,c0,c1,c2]
   refine qi (fun x:List Int×List Int=>[(2,.pt 4 0),(3,.pt 3 0)]) (fun x=>[(1,.own 1 (qe (x.1++x.2))),(3,.own 0 [.rf 1 0 x.1.length]),(4,.own 0 [.v (.slice none 0 0)]),(10000000,.own 0 [.sl l.length (qj l),.v (.int .i64 i3),.v (.int .i64 h3)])])
    (fun x=>x.1.length≤101) (fun x=>101-x.1.length) (lim m,zs)
    (by show(lim m).length≤101;omega) (Le.lst [(3,50000000),(4,40000000),(1,70000000)] _ _ rfl (by simp(disch:=omega)only[go_sem]) (by simp(disch:=omega)only[go_sem])) ?_
   rintro⟨xs,ys⟩ hx
   dsimp only at hx ⊢
   simp(disch:=omega)only[go_sem]
   refine qg (fun c3=>?_) (fun c3=>?_)
   ·simp(disch:=omega)only[go_sem,c3]
    exact⟨⟨by simp,by omega⟩,qb (xs++[1],[]) [(1,210000000)] (by simp;omega) (by simp;omega) rfl (by simp(disch:=omega)only[go_sem,List.length_append];try omega) (by simp(disch:=omega)only[go_sem,List.length_append,List.append_nil,List.take_left])⟩
   ·simp(disch:=omega)only[go_sem,c3]
    refine qh [(0,1)] [.own 1 (qe (xs++ys))] [.own 0 [.sl l.length (qj l),.v (.int .i64 i3),.v (.int .i64 h3)]] [.ag [.rf 0 0 xs.length]] rfl (by simp(disch:=omega)only[go_sem]) (by simp(disch:=omega)only[go_sem]) (by simp) (by simp) ⟨⟨xs,by omega,.inr ⟨ys,rfl,rfl⟩⟩,_,_,hi3,rfl⟩
omit hi hl in
theorem Con.cur{f:Nat}{args:List AV}{Q:AV→List Ob→Prop}{Q':AV→Prop}(hc:Con Tryz.prog f false args [.own 0 [.sl l.length (qj l),.v (.int .i64 i),.v (.int .i64 h)]] (fun r hs bs=>Q r hs∧∃i h:Int,(0≤i∧i≤l.length)∧bs=[.own 0 [.sl l.length (qj l),.v (.int .i64 i),.v (.int .i64 h)]]))
  (hq:∀r hs,Q r hs→(∀ob∈hs,ob.men fun _=>False)∧Q' (qJ (rhp hs []) 6 r)):Con Tryz.prog f false args [.own 0 [.sl l.length (qj l),.v (.int .i64 i),.v (.int .i64 h)]] (YE l Q'):=
 (Con.frzB hc (by
  rintro r hs bs ⟨h1,i,h, -,rfl⟩
  exact⟨by simp[Ob.men,AllL,AV.All],(hq r hs h1).1⟩)).mono fun r hs bs=>by
   rintro⟨rfl,r0,hs0,⟨h1,h2⟩,rfl⟩
   exact⟨rfl,(hq _ _ h1).2,h2⟩
omit hi hl in
theorem Con.curF{f:Nat}{args:List AV}{Q Q':AV→Prop}(hc:Con Tryz.prog f false args [.own 0 [.sl l.length (qj l),.v (.int .i64 i),.v (.int .i64 h)]] (YE l Q))(hq:∀r,Q r→Q' (qJ (rhp [] []) 6 r)):
  Con Tryz.prog f false args [.own 0 [.sl l.length (qj l),.v (.int .i64 i),.v (.int .i64 h)]] (YE l Q'):=
 Con.cur l i h (Q:=fun r hs=>hs=[]∧Q r) (hc.mono fun r hs bs ⟨h1,h2,h3⟩=>⟨⟨h1,h2⟩,h3⟩) fun r hs ⟨h1,h2⟩=>by subst h1;exact⟨by simp,hq r h2⟩
omit hi hl in
theorem ZX{r:AV}{hs:List Ob}{xs:List Int}(h:bh8 r hs xs):(∀ob∈hs,ob.men fun _=>False)∧qJ (rhp hs []) 6 r=.ag [.sl xs.length (qe xs)]:=by
 rcases h with⟨rfl,rfl,rfl⟩|⟨zs,rfl,rfl⟩
 ·exact⟨by simp,rfl⟩
 ·refine⟨by intro ob ho;rw[List.mem_singleton.1 ho];exact Z2,?_⟩
  show AV.ag [qJ _ 5 (.rf 0 0 xs.length)]=_
  rw[yw zl rfl]
theorem agm:Con Tryz.prog 312 false [.pt 10000000 0] [.own 0 [.sl l.length (qj l),.v (.int .i64 i),.v (.int .i64 h)]] (YE l fun r=>∃m:Nat,bl m≤1600∧r=.ag [.sl (lim (m)).length (qe (lim (m)))]):=
 Con.cur l i h (YN l hl i h hi) fun r hs ⟨m,hb,hr⟩=>by
  have:bh8 r hs (lim m):=hr.elim (fun⟨h0,h1,h2⟩=>.inl ⟨by rw[h0,qs],h1,h2⟩) .inr
  exact⟨(ZX this).1,m,hb,(ZX this).2⟩
theorem amV:Con Tryz.prog 275 false [.pt 10000000 0] [.own 0 [.sl l.length (qj l),.v (.int .i64 i),.v (.int .i64 h)]] (YE l fun r=>∃xs:List Int,xs.length≤200∧r=.ag [.sl xs.length (qe xs)]):=
 Con.cur l i h (agn l hl i h hi) fun r hs ⟨xs,hb,hr⟩=>⟨(ZX hr).1,xs,hb,(ZX hr).2⟩
theorem YL:Con Tryz.prog 274 false [.pt 10000000 0] [.own 0 [.sl l.length (qj l),.v (.int .i64 i),.v (.int .i64 h)]] (YE l fun r=>∃(s:Bool) (m:Nat),bl m≤1600∧r=.ag [.v (.bool (s&&decide (m≠0))),.sl (lim (m)).length (qe (lim (m)))]):=by
 refine Con.of_aw Tryz.func274 rfl Tryz.ntmps274 (by simp) (by simp) (by simp) (W.sound ?_)
 show @W Tryz.prog 8 ⟨_⟩ ⟨fun x σ=>@q8 _ _ _ ⟨_⟩ _ ⟨_⟩ x σ⟩ _ _
 simp(disch:=omega)only[go_sem]
 refine qx (qW l hl i h hi 2 (by omega)) ?_
 rintro r i1 h1 hi1 ⟨b,rfl⟩
 simp(disch:=omega)only[go_sem]
 refine qx (agm l hl i1 h1 hi1) ?_
 rintro r i2 h2 hi2 ⟨m,hm,rfl⟩
 simp(disch:=omega)only[go_sem]
 have hx:=qI (m:=m) (B:=1600) hm
 refine qa (jO b m (by omega)) ?_
 simp(disch:=omega)only[go_sem]
 refine qU (i2) (h2) ⟨b,m,hm,rfl⟩
theorem amT:Con Tryz.prog 204 false [.pt 10000000 0] [.own 0 [.sl l.length (qj l),.v (.int .i64 i),.v (.int .i64 h)]] (YE l fun r=>∃(s:Bool) (xs:List Int),xs.length≤200∧r=.ag [.v (.bool s),.sl xs.length (qe xs)]):=by
 refine Con.curF (Q:=fun r=>∃(s:Bool) (xs:List Int),xs.length≤200∧(r=.ag [.v (.bool s),.sl xs.length (qe xs)]∨(xs=[]∧r=.ag [.v (.bool s),.v (.slice none 0 0)]))) l i h ?_ (fun r ⟨s,xs,h1,h2⟩=>⟨s,xs,h1,h2.elim (fun h=>by rw[h];rfl) fun⟨h,h'⟩=>by rw[h,h'];rfl⟩)
 refine Con.of_aw Tryz.func204 rfl Tryz.ntmps204 (by simp) (by simp) (by simp) (W.sound ?_)
 show @W Tryz.prog 15 ⟨_⟩ ⟨fun x σ=>@q8 _ _ _ ⟨_⟩ _ ⟨_⟩ x σ⟩ _ _
 simp(disch:=omega)only[go_sem]
 refine qx (YL l hl i h hi) ?_
 rintro r i1 h1 hi1 ⟨s,m,hm,rfl⟩
 simp(disch:=omega)only[go_sem]
 have hx:=qI (m:=m) (B:=1600) hm
 refine qx (qW l hl i1 h1 hi1 9 (by omega)) ?_
 rintro r i2 h2 hi2 ⟨b,rfl⟩
 simp(disch:=omega)only[go_sem]
 cases b
 ·simp(disch:=omega)only[go_sem]
  refine qU (i2) (h2) ⟨_,lim m,by omega,.inl rfl⟩
 ·simp(disch:=omega)only[go_sem]
  refine qx (qW l hl i2 h2 hi2 2 (by omega)) ?_
  rintro r i3 h3 hi3 ⟨b,rfl⟩
  simp(disch:=omega)only[go_sem]
  cases b
  ·simp(disch:=omega)only[go_sem]
   refine qx (amV l hl i3 h3 hi3) ?_
   rintro r i4 h4 hi4 ⟨xs,hxs,rfl⟩
   simp(disch:=omega)only[go_sem]
   refine qU (i4) (h4) ⟨_,xs,hxs,.inl rfl⟩
  ·simp(disch:=omega)only[go_sem]
   refine qU (i3) (h3) ⟨true,[],by simp,.inr ⟨rfl,rfl⟩⟩
omit hi hl in
theorem XD:AV.ag [.v (.bool false),.sl 0 [],.v (.int .i64 0)]=.ag [.v (.bool (ex0).s),.sl (lim (ex0).m).length (qe (lim (ex0).m)),.v (.int .i64 (ex0).e)]:=by
 show _=AV.ag [.v (.bool false),.sl (lim 0).length (qe (lim 0)),.v (.int .i64 0)]
 rw[qs];rfl
omit hi hl in
theorem y3(x:ExV)(h:zY x.s (lim x.m)=true)(he: -12000≤x.e∧x.e≤12000):Con Tryz.prog 78 false [.ag [.v (.bool (x.s)),.sl (lim (x.m)).length (qe (lim (x.m)))],.v (.int .i64 x.e)] [] (isA (.tu [.ag [.v (.bool (x.tel).s),.sl (lim (x.tel).m).length (qe (lim (x.tel).m)),.v (.int .i64 (x.tel).e)],.v (.bool x.fit)])):=by
 have c:=acb x.s x.m x.e h he
 rw[show jJ x.m x.e=x.fit from rfl]at c
 unfold ExV.tel
 cases hf:x.fit<;>rw[hf]at c<;>exact c
omit hi hl in
theorem aQ4{m:Nat}(h:bl m≤1600):(lim m).length≤100:=j9.2 (Nat.lt_of_lt_of_eq (zf.1 h) (by decide+kernel))
theorem YK:Con Tryz.prog 203 false [.pt 10000000 0] [.own 0 [.sl l.length (qj l),.v (.int .i64 i),.v (.int .i64 h)]] (YE l fun r=>∃x:ExV,x.ok=true∧r=.ag [.v (.bool (x).s),.sl (lim (x).m).length (qe (lim (x).m)),.v (.int .i64 (x).e)]):=by
 refine Con.curF (Q:=fun r=>∃x:ExV,x.ok=true∧qJ (rhp [] []) 6 r=.ag [.v (.bool (x).s),.sl (lim (x).m).length (qe (lim (x).m)),.v (.int .i64 (x).e)]) l i h ?_ fun _ h=>h
 refine Con.of_aw Tryz.func203 rfl Tryz.ntmps203 (by simp) (by simp) (by simp) (W.sound ?_)
 show @W Tryz.prog 33 ⟨_⟩ ⟨fun x σ=>@q8 _ _ _ ⟨_⟩ _ ⟨_⟩ x σ⟩ _ _
 simp(disch:=omega)only[go_sem]
 refine qx (YL l hl i h hi) ?_
 rintro r i1 h1 hi1 ⟨s,m,hm,rfl⟩
 simp(disch:=omega)only[go_sem]
 have hx:=qI (m:=m) (B:=1600) hm
 refine qx (qW l hl i1 h1 hi1 3 (by omega)) ?_
 rintro r i2 h2 hi2 ⟨b,rfl⟩
 simp(disch:=omega)only[go_sem]
 have ww:∀(s:Bool) (m:Nat),bl m≤1600→zY (s&&decide (m≠0)) (lim m)=true:=fun s m hm=>Q5 (aQ4 hm) (by intro h;simp[h])
 cases b
 ·simp(disch:=omega)only[go_sem]
  refine qx (qN l hl i2 h2 hi2 24 (by omega)) ?_
  rintro r i3 h3 hi3 ⟨k,hk,rfl⟩
  simp(disch:=omega)only[go_sem]
  have hk2:=hk.2 (by omega)
  refine qx (qW l hl i3 h3 hi3 6 (by omega)) ?_
  rintro r i4 h4 hi4 ⟨b,rfl⟩
  simp(disch:=omega)only[go_sem]
  cases b
  ·simp(disch:=omega)only[go_sem]
   refine qa (y3 ⟨s&&decide (m≠0),m,k-12⟩ (ww s m hm) (by show-12000≤k-12∧k-12≤12000;omega)) ?_
   simp(disch:=omega)only[go_sem]
   have ok:=agX ⟨s&&decide (m≠0),m,k-12⟩
   generalize ExV.tel ⟨s&&decide (m≠0),m,k-12⟩=y at*
   cases hf:ExV.fit ⟨s&&decide (m≠0),m,k-12⟩
   ·simp(disch:=omega)only[go_sem,hf]
    refine qU (i4) (h4) ⟨ex0,abK,by simp(disch:=omega)only[go_sem];exact XD⟩
   ·simp(disch:=omega)only[go_sem,hf]
    refine qU (i4) (h4) ⟨y,ok,by simp(disch:=omega)only[go_sem]⟩
  ·simp(disch:=omega)only[go_sem]
   refine jY (zC l hl i4 h4 hi4 [0, -60,60, -1074,900, -2990,2990, -100] (by simp) (by simp)) ?_
   rintro r i5 h5 hi5 ⟨x,hx,rfl⟩
   have hx_b: -3000≤x∧x≤3000:=by
    simp only[List.mem_cons,List.not_mem_nil,or_false]at hx
    omega
   clear hx
   simp(disch:=omega)only[go_sem]
   refine qa (y3 ⟨s&&decide (m≠0),m,x⟩ (ww s m hm) (by show-12000≤x∧x≤12000;omega)) ?_
   simp(disch:=omega)only[go_sem]
   have ok:=agX ⟨s&&decide (m≠0),m,x⟩
   generalize ExV.tel ⟨s&&decide (m≠0),m,x⟩=y at*
   cases hf:ExV.fit ⟨s&&decide (m≠0),m,x⟩
   ·simp(disch:=omega)only[go_sem,hf]
    refine qU (i5) (h5) ⟨ex0,abK,by simp(disch:=omega)only[go_sem];exact XD⟩
   ·simp(disch:=omega)only[go_sem,hf]
    refine qU (i5) (h5) ⟨y,ok,by simp(disch:=omega)only[go_sem]⟩
 ·simp(disch:=omega)only[go_sem]
  refine qx (qN l hl i2 h2 hi2 40 (by omega)) ?_
  rintro r i3 h3 hi3 ⟨q,hq,rfl⟩
  simp(disch:=omega)only[go_sem]
  have hq2:=hq.2 (by omega)
  refine qa (XK (q-20) (by omega)) ?_
  simp(disch:=omega)only[go_sem]
  have wq:zY (decide (q-20<0)) (lim (q-20).natAbs)=true:=Q5 (by have:=qI (m:=(q-20).natAbs) (B:=6) (zf.2 (by omega));omega) (by intro h;simp;omega)
  refine qx (qN l hl i3 h3 hi3 24 (by omega)) ?_
  rintro r i4 h4 hi4 ⟨k,hk,rfl⟩
  simp(disch:=omega)only[go_sem]
  have hk2:=hk.2 (by omega)
  refine qx (qW l hl i4 h4 hi4 6 (by omega)) ?_
  rintro r i5 h5 hi5 ⟨b,rfl⟩
  simp(disch:=omega)only[go_sem]
  cases b
  ·simp(disch:=omega)only[go_sem]
   refine qa (y3 ⟨decide (q-20<0),(q-20).natAbs,k-12⟩ (wq) (by show-12000≤k-12∧k-12≤12000;omega)) ?_
   simp(disch:=omega)only[go_sem]
   have ok:=agX ⟨decide (q-20<0),(q-20).natAbs,k-12⟩
   generalize ExV.tel ⟨decide (q-20<0),(q-20).natAbs,k-12⟩=y at*
   cases hf:ExV.fit ⟨decide (q-20<0),(q-20).natAbs,k-12⟩
   ·simp(disch:=omega)only[go_sem,hf]
    refine qU (i5) (h5) ⟨ex0,abK,by simp(disch:=omega)only[go_sem];exact XD⟩
   ·simp(disch:=omega)only[go_sem,hf]
    refine qU (i5) (h5) ⟨y,ok,by simp(disch:=omega)only[go_sem]⟩
  ·simp(disch:=omega)only[go_sem]
   refine jY (zC l hl i5 h5 hi5 [0, -60,60, -1074,900, -2990,2990, -100] (by simp) (by simp)) ?_
   rintro r i6 h6 hi6 ⟨x,hx,rfl⟩
   have hx_b: -3000≤x∧x≤3000:=by
    simp only[List.mem_cons,List.not_mem_nil,or_false]at hx
    omega
   clear hx
   simp(disch:=omega)only[go_sem]
   refine qa (y3 ⟨decide (q-20<0),(q-20).natAbs,x⟩ (wq) (by show-12000≤x∧x≤12000;omega)) ?_
   simp(disch:=omega)only[go_sem]
   have ok:=agX ⟨decide (q-20<0),(q-20).natAbs,x⟩
   generalize ExV.tel ⟨decide (q-20<0),(q-20).natAbs,x⟩=y at*
   cases hf:ExV.fit ⟨decide (q-20<0),(q-20).natAbs,x⟩
   ·simp(disch:=omega)only[go_sem,hf]
    refine qU (i6) (h6) ⟨ex0,abK,by simp(disch:=omega)only[go_sem];exact XD⟩
   ·simp(disch:=omega)only[go_sem,hf]
    refine qU (i6) (h6) ⟨y,ok,by simp(disch:=omega)only[go_sem]⟩
theorem amS:Con Tryz.prog 110 false [.pt 10000000 0] [.own 0 [.sl l.length (qj l),.v (.int .i64 i),.v (.int .i64 h)]] (YE l fun r=>∃d:DyV,d.xs.length≤200∧r=.ag d.cs):=by
 refine Con.of_aw Tryz.func110 rfl Tryz.ntmps110 (by simp) (by simp) (by simp) (W.sound ?_)
 show @W Tryz.prog 28 ⟨_⟩ ⟨fun x σ=>@q8 _ _ _ ⟨_⟩ _ ⟨_⟩ x σ⟩ _ _
 simp(disch:=omega)only[go_sem]
 refine qx (YK l hl i h hi) ?_
 rintro r i1 h1 hi1 ⟨x,hx,rfl⟩
 simp(disch:=omega)only[go_sem]
 have lx:=(jS hx).2.2.1
 refine qx (qW l hl i1 h1 hi1 9 (by omega)) ?_
 rintro r i2 h2 hi2 ⟨b,rfl⟩
 simp(disch:=omega)only[go_sem]
 cases b
 ·simp(disch:=omega)only[go_sem]
  refine qU (i2) (h2) ⟨⟨x.s,lim x.m,x.e⟩,by show(lim x.m).length≤200;omega,rfl⟩
 ·simp(disch:=omega)only[go_sem]
  refine qx (qN l hl i2 h2 hi2 3 (by omega)) ?_
  rintro r i3 h3 hi3 ⟨q,hq,rfl⟩
  simp(disch:=omega)only[go_sem]
  by_cases c0:q=0
  ·simp(disch:=omega)only[go_sem,c0]
   refine jY (zC l hl i3 h3 hi3 [-3001,3001,3000,4611686018427387904] (by simp) (by simp)) ?_
   rintro r i4 h4 hi4 ⟨y,hy,rfl⟩
   clear hy
   simp(disch:=omega)only[go_sem]
   refine qU (i4) (h4) ⟨⟨x.s,lim x.m,y⟩,by show(lim x.m).length≤200;omega,rfl⟩
  by_cases c1:q=1
  ·simp(disch:=omega)only[go_sem,c0,c1]
   refine qx (amT l hl i3 h3 hi3) ?_
   rintro r i4 h4 hi4 ⟨s,xs,hxs,rfl⟩
   simp(disch:=omega)only[go_sem]
   refine qU (i4) (h4) ⟨⟨s,xs,x.e⟩,hxs,rfl⟩
  simp(disch:=omega)only[go_sem,c0,c1]
  refine qU (i3) (h3) ⟨⟨!x.s,lim x.m,x.e⟩,by show(lim x.m).length≤200;omega,rfl⟩
end
end Go.Ab
namespace Go.Ab
open Go
def z3:List AV:=[.v (.bool false),.v (.slice none 0 0),.v (.int .i64 0)]
def z6:List AV:=[.v (.bool false),.v (.slice none 0 0),.v (.int .i64 0),.v (.bool false),.v (.slice none 0 0),.v (.int .i64 0)]
section
variable {X:Type}{f:X→List AV}{z:Nat}{n:Nat}{zs:List AV}{ρ:Nat→Nat}{p:Nat→Prop}
theorem agK(h:zP ρ zs=zs):zP ρ (jh n zs)=jh n zs:=by
 unfold jh
 induction n with
 |zero=>rfl
 |succ n ih=>
  rw[List.replicate_succ,List.flatten_cons]
  have:∀a b:List AV,zP ρ (a++b)=zP ρ a++zP ρ b:=fun a b=>by simp[qY]
  rw[this,h,ih]
theorem agL(h:AllL p zs):AllL p (jh n zs):=by
 unfold jh
 induction n with
 |zero=>simp[AllL]
 |succ n ih=>rw[List.replicate_succ,List.flatten_cons];exact AllL.append h ih
theorem act:∀(ks a b:List AV) (o:Nat),o+ks.length≤a.length→wr (a++b) o ks=wr a o ks++b
 | [],a,b,o,_=>by simp[wr]
 |k::r,a,b,o,h=>by
  simp only[List.length_cons]at h
  rw[wr,wr,List.set_append_left _ _ (by omega),act r]
  rw[List.length_set];omega
theorem aGB(hz:∀x,(f x).length=z){x y:X}{L:List X}:wr (qn f (x::L)) 0 (f y)=qn f (y::L):=by
 rw[zM,zM,act _ _ _ _ (by rw[hz,hz];omega)]
 have:=Z6 [] (f x) (f y) (by rw[hz,hz])
 rw[List.nil_append,List.nil_append]at this
 exact congrArg (· ++qn f L) this
theorem aGC(hz:∀x,(f x).length=z)(hs:zs.length=z){L:List X}{k:Nat}(x:X):wr (qn f L++jh (k+1) zs) (L.length*z) (f x)=qn f (L++[x])++jh k zs:=by
 unfold jh
 rw[List.replicate_succ,List.flatten_cons,←List.append_assoc]
 have h1:(qn f L++zs).length=(qn f L).length+z:=by simp[hs]
 have h2:=Z6 (qn f L) zs (f x) (by rw[hz,hs])
 rw[yR hz]at h2
 rw[act _ _ _ _ (by rw[h1,yR hz,hz];exact Nat.le_refl _),h2,←afF,zM,Qt,List.append_nil]
theorem aJr:zP ρ (jh n z3)=jh n z3:=agK rfl
theorem aJs:AllL p (jh n z3)=True:=eq_true (agL (by simp[z3,AllL,AV.All]))
theorem agM:(jh n z3).length=n*3:=zB n z3
theorem aTM:zP ρ (jh n z6)=jh n z6:=agK rfl
theorem aTO:AllL p (jh n z6)=True:=eq_true (agL (by simp[z6,AllL,AV.All]))
theorem aTN:(jh n z6).length=n*6:=zB n z6
theorem aJq:jh 0 zs=[]:=by simp[jh]
theorem XC{L:List ExV}{k:Nat}{x:ExV}:wr (qn ExV.cs L++jh (k+1) z3) (L.length*3) [.v (.bool x.s),.sl (lim x.m).length (qe (lim x.m)),.v (.int .i64 x.e)]=qn ExV.cs (L++[x])++jh k z3:=aGC at2 rfl x
theorem aIv{x:DyV}{L:List DyV}{s:Bool}{xs:List Int}{e:Int}:wr (qn DyV.cs (x::L)) 0 [.v (.bool s),.sl xs.length (qe xs),.v (.int .i64 e)]=qn DyV.cs (⟨s,xs,e⟩::L):=aGB ahx (y:=⟨s,xs,e⟩)
theorem aGK{a b:List AV}:zP ρ (a++b)=zP ρ a++zP ρ b:=by simp[qY]
theorem aJh{a b:List AV}:AllL p (a++b)=(AllL p a∧AllL p b):=propext ⟨fun h=>by
 induction a with
 |nil=>exact⟨by simp[AllL],h⟩
 |cons x r ih=>exact⟨⟨h.1,(ih h.2).1⟩,(ih h.2).2⟩,fun h=>AllL.append h.1 h.2⟩
end
attribute [go_sem] aJr aJs agM aTM aTO aTN aGK aJh
end Go.Ab
namespace Go.Ab
open Go Go.Proofs
theorem abU(n:Nat)(hn:n≤4):Con Tryz.prog 152 false [.v (.int .i64 n)] [] (fun r hs bs=>r=.ag [.v (.int .i64 n),.rf 0 0 (n*n)]∧hs=[.own 3 (jh (n*n) z3)]):=by
 have hq:=j7 hn
 have hz:((n:Int)*n).toNat=n*n:=by rw[←Int.natCast_mul];rfl
 have hz2:(n:Int)*n=((n*n:Nat):Int):=(Int.natCast_mul n n).symm
 refine Con.of_aw Tryz.func152 rfl Tryz.ntmps152 (by simp) (by simp) (by simp) (W.sound ?_)
 show @W Tryz.prog 9 ⟨_⟩ ⟨fun x σ=>@q8 _ _ _ ⟨_⟩ _ ⟨_⟩ x σ⟩ _ _
 simp(disch:=omega)only[go_sem]
 rw[hz]
 refine⟨by rw[hz2];omega,qh [(0,90000000)] [.own 3 (jh (n*n) z3)] [] [.ag [.v (.int .i64 n),.rf 0 0 (n*n)]] rfl (by simp(disch:=omega)only[go_sem]) (by simp(disch:=omega)only[go_sem,aJr,aJs];rfl) (by simp) (by simp) ⟨rfl,rfl⟩⟩
section
variable (l:List UInt8)(hl:l.length≤9223372036854775807)(i h:Int)(hi:0≤i∧i≤l.length)
include hl hi
theorem JT:Con Tryz.prog 153 false [.pt 10000000 0] [.own 0 [.sl l.length (qj l),.v (.int .i64 i),.v (.int .i64 h)]] (YE l fun r=>∃x:ExV,x.ok=true∧r=.ag [.v (.bool (x).s),.sl (lim (x).m).length (qe (lim (x).m)),.v (.int .i64 (x).e)]):=by
 refine Con.of_aw Tryz.func153 rfl Tryz.ntmps153 (by simp) (by simp) (by simp) (W.sound ?_)
 show @W Tryz.prog 11 ⟨_⟩ ⟨fun x σ=>@q8 _ _ _ ⟨_⟩ _ ⟨_⟩ x σ⟩ _ _
 simp(disch:=omega)only[go_sem]
 refine qx (qN l hl i h hi 17 (by omega)) ?_
 rintro r i1 h1 hi1 ⟨k,hk,rfl⟩
 simp(disch:=omega)only[go_sem]
 have hk2:=hk.2 (by omega)
 refine qa (XK (k-8) (by omega)) ?_
 simp(disch:=omega)only[go_sem]
 refine qx (qN l hl i1 h1 hi1 4 (by omega)) ?_
 rintro r i2 h2 hi2 ⟨q,hq,rfl⟩
 simp(disch:=omega)only[go_sem]
 have hq2:=hq.2 (by omega)
 have b6:bl (k-8).natAbs≤6:=zf.2 (by omega)
 have cf:=Zu (decide (k-8<0)) (k-8).natAbs (0-q) (by omega) (by omega)
 have hf:(ExV.mk (decide (k-8<0)) (k-8).natAbs (0-q)).can.ok=true:=by
  rw[aSN]
  show jJ (k-8).natAbs (0-q)=true
  exact aud (by omega) (by omega)
 have hc:ExV.mk (oS (decide (k-8<0)) (k-8).natAbs) (oM (k-8).natAbs) (oE (k-8).natAbs (0-q))=(ExV.mk (decide (k-8<0)) (k-8).natAbs (0-q)).can:=rfl
 rw[←hc]at hf
 generalize oS (decide (k-8<0)) (k-8).natAbs=S at*
 generalize oM (k-8).natAbs=M at*
 generalize oE (k-8).natAbs (0-q)=E at*
 refine qa (cf) ?_
 simp(disch:=omega)only[go_sem]
 refine qU (i2) (h2) ⟨⟨S,M,E⟩,hf,rfl⟩
theorem amP(n:Nat)(hn:n≤4):Con Tryz.prog 242 false [.pt 10000000 0,.v (.int .i64 n)] [.own 0 [.sl l.length (qj l),.v (.int .i64 i),.v (.int .i64 h)]] (fun r hs bs=>(∃L:List ExV,L.length=n*n∧(∀x∈L,x.ok=true)∧r=.ag [.v (.int .i64 n),.rf 0 0 (n*n)]∧hs=[.own 3 (qn ExV.cs L)])∧∃i h:Int,(0≤i∧i≤l.length)∧bs=[.own 0 [.sl l.length (qj l),.v (.int .i64 i),.v (.int .i64 h)]]):=by
 have hq:=j7 hn
 refine Con.of_aw Tryz.func242 rfl Tryz.ntmps242 (by simp) (by simp) (by simp) (W.sound ?_)
 show @W Tryz.prog 31 ⟨_⟩ ⟨fun x σ=>@q8 _ _ _ ⟨_⟩ _ ⟨_⟩ x σ⟩ _ _
 simp(disch:=omega)only[go_sem]
 refine zk (abU n hn) (by simp(disch:=omega)only[go_sem]) ?_
 rintro r hs ⟨rfl,rfl⟩
 refine⟨by simp[qR];simp(disch:=omega)only[go_sem],?_⟩
 simp(disch:=omega)only[go_sem]
 refine qi (fun x:List ExV×Int×Int=>[(0,.pt 10000000 0),(4,.pt 4 0),(5,.pt 5 0),(6,.v (.int .i64 x.1.length))])
  (fun x=>[(3,.own 3 (qn ExV.cs x.1++jh (n*n-x.1.length) z3)),(4,.own 0 [.v (.int .i64 0),.v (.slice none 0 0)]),(5,.own 0 [.v (.int .i64 n),.rf 3 0 (n*n)]),(10000000,.own 0 [.sl l.length (qj l),.v (.int .i64 x.2.1),.v (.int .i64 x.2.2)])])
  (fun x=>x.1.length≤n*n∧(∀y∈x.1,y.ok=true)∧(0≤x.2.1∧x.2.1≤l.length)) (fun x=>n*n-x.1.length) ([],i,h) ⟨by simp,by simp,hi⟩
  (Le.lst [(3,100000000),(4,60000000),(5,70000000)] _ _ rfl (by simp(disch:=omega)only[go_sem]) (by simp(disch:=omega)only[go_sem,Zo,List.nil_append];try rfl)) ?_
 rintro⟨L,i2,h2⟩ ⟨hL,hok,hi2⟩
 dsimp only at hL hok hi2 ⊢
 simp(disch:=omega)only[go_sem]
 refine qg (fun c1=>?_) (fun c1=>?_)
 ·obtain⟨k,hk⟩:∃k,n*n-L.length=k+1:=⟨n*n-L.length-1,by omega⟩
  rw[hk]
  simp(disch:=omega)only[go_sem,c1]
  refine qx (qW l hl i2 h2 hi2 25 (by omega)) ?_
  rintro r i3 h3 hi3 ⟨b,rfl⟩
  simp(disch:=omega)only[go_sem]
  cases b
  ·simp(disch:=omega)only[go_sem]
   refine qv rfl [⟨0,[],[]⟩,⟨1,[],[]⟩,⟨2,[1],[]⟩,⟨3,[1],[]⟩,⟨4,[1],[]⟩,⟨5,[],[]⟩,⟨6,[],[]⟩] (by kernel_rfl) ?_
   simp(disch:=omega)only[go_sem]
   refine qx (JT l hl i3 h3 hi3) ?_
   rintro r i4 h4 hi4 ⟨x,hx,rfl⟩
   simp(disch:=omega)only[go_sem]
   have hl3:(L++[x]).length=L.length+1:=by simp
   rw[XC]
   refine⟨by omega,by rw[List.length_append,JJ,agM];omega,qb (L++[x],i4,h4) [] ⟨by dsimp only;omega,fun y hy=>?_,hi4⟩ (by show n*n-(L++[x]).length<k+1;omega) rfl (by simp(disch:=omega)only[go_sem,hl3];try omega) (by simp(disch:=omega)only[go_sem,hl3,show n*n-(L.length+1)=k by omega])⟩
   rcases List.mem_append.1 hy with hy|hy
   ·exact hok y hy
   ·rw[List.mem_singleton.1 hy];exact hx
  ·simp(disch:=omega)only[go_sem]
   refine qv rfl [⟨0,[],[]⟩,⟨1,[],[]⟩,⟨2,[1],[]⟩,⟨3,[1],[]⟩,⟨4,[1],[]⟩,⟨5,[],[]⟩,⟨6,[],[]⟩] (by kernel_rfl) ?_
   simp(disch:=omega)only[go_sem]
   refine qx (YK l hl i3 h3 hi3) ?_
   rintro r i4 h4 hi4 ⟨x,hx,rfl⟩
   simp(disch:=omega)only[go_sem]
   have hl3:(L++[x]).length=L.length+1:=by simp
   rw[XC]
   refine⟨by omega,by rw[List.length_append,JJ,agM];omega,qb (L++[x],i4,h4) [] ⟨by dsimp only;omega,fun y hy=>?_,hi4⟩ (by show n*n-(L++[x]).length<k+1;omega) rfl (by simp(disch:=omega)only[go_sem,hl3];try omega) (by simp(disch:=omega)only[go_sem,hl3,show n*n-(L.length+1)=k by omega])⟩
   rcases List.mem_append.1 hy with hy|hy
   ·exact hok y hy
   ·rw[List.mem_singleton.1 hy];exact hx
 ·obtain hLn:L.length=n*n:=by omega
  simp(disch:=omega)only[go_sem,c1]
  refine qh [(0,3)] [.own 3 (qn ExV.cs L)] [.own 0 [.sl l.length (qj l),.v (.int .i64 i2),.v (.int .i64 h2)]] [.ag [.v (.int .i64 n),.rf 0 0 (n*n)]] rfl (by simp(disch:=omega)only[go_sem]) (by simp(disch:=omega)only[go_sem,hLn,Nat.sub_self,aJq,List.append_nil]) (by simp) (by simp) ⟨⟨L,hLn,hok,rfl,rfl⟩,_,_,hi2,rfl⟩
theorem aSB:Con Tryz.prog 109 false [.pt 10000000 0] [.own 0 [.sl l.length (qj l),.v (.int .i64 i),.v (.int .i64 h)]] (YE l fun r=>∃n:Nat,(1≤n∧n≤4)∧r=.v (.int .i64 n)):=by
 refine Con.of_aw Tryz.func109 rfl Tryz.ntmps109 (by simp) (by simp) (by simp) (W.sound ?_)
 show @W Tryz.prog 6 ⟨_⟩ ⟨fun x σ=>@q8 _ _ _ ⟨_⟩ _ ⟨_⟩ x σ⟩ _ _
 simp(disch:=omega)only[go_sem]
 refine qx (qN l hl i h hi 4 (by omega)) ?_
 rintro r i1 h1 hi1 ⟨k,hk,rfl⟩
 simp(disch:=omega)only[go_sem]
 have hk2:=hk.2 (by omega)
 obtain⟨m,rfl⟩:=Int.eq_ofNat_of_zero_le hk.1
 refine qU (i1) (h1) ⟨m+1,by omega,by rw[show((m+1:Nat):Int)=1+(m:Int) by omega];rfl⟩
def aV8(r:AV):Prop:=∃(n:Int) (l:List DyV),l.length≤16∧(∀d∈l,d.xs.length≤200)∧r=.ag [.v (.int .i64 n),.sl l.length (qn DyV.cs l)]
omit hl hi in
theorem atf{n:Int}{L:List DyV}{o k:Nat}(h1:L.length=o+k)(h2:L.length≤16)(h3:∀d∈L,d.xs.length≤200):aV8 (qJ (rhp [.own 3 (qn DyV.cs L)] []) 6 (.ag [.v (.int .i64 n),.rf 0 (o*3) k])):=by
 refine⟨n,(L.drop o).take k,?_,fun d hd=>h3 d (List.mem_of_mem_drop (List.mem_of_mem_take hd)),?_⟩
 ·rw[List.length_take,List.length_drop];omega
 ·have e:((L.drop o).take k).length=k:=by rw[List.length_take,List.length_drop];omega
  rw[e]
  show AV.ag [_,qJ _ 5 (.rf 0 (o*3) k)]=_
  simp only[afD,zl]
  rw[asH ahx,ahw]
  rfl
omit hl hi in
theorem asF(L:List ExV):qn ExV.cs L=qn DyV.cs (L.map ExV.dy):=aKy L
def bkI(n:Nat)(r:AV)(hs:List Ob):Prop:=∃(k:Int) (M:List DyV) (o m:Nat),M.length=o+m∧o≤1∧M.length=n*n∧(∀d∈M,d.xs.length≤200)∧r=.ag [.v (.int .i64 k),.rf 0 (o*3) m]∧hs=[.own 3 (qn DyV.cs M)]
theorem agj(n:Nat)(hn:1≤n∧n≤4):Con Tryz.prog 154 false [.pt 10000000 0,.v (.int .i64 n)] [.own 0 [.sl l.length (qj l),.v (.int .i64 i),.v (.int .i64 h)]] (fun r hs bs=>bkI n r hs∧∃i h:Int,(0≤i∧i≤l.length)∧bs=[.own 0 [.sl l.length (qj l),.v (.int .i64 i),.v (.int .i64 h)]]):=by
 have hq:=j7 hn.2
 refine Con.of_aw Tryz.func154 rfl Tryz.ntmps154 (by simp) (by simp) (by simp) (W.sound ?_)
 show @W Tryz.prog 33 ⟨_⟩ ⟨fun x σ=>@q8 _ _ _ ⟨_⟩ _ ⟨_⟩ x σ⟩ _ _
 simp(disch:=omega)only[go_sem]
 refine yr false [10000000] (amP l hl i h hi n hn.2) (by simp(disch:=omega)only[go_sem]) (by simp(disch:=omega)only[go_sem]) rfl (qQ (z:=0) (cs:=[.sl l.length (qj l),.v (.int .i64 i),.v (.int .i64 h)]) (by simp(disch:=omega)only[go_sem]) (by simp(disch:=omega)only[go_sem])) (by intro n hn;exact⟨_,List.mem_cons_self ..,by rw[List.mem_singleton.1 hn];rfl⟩) ?_
 rintro r hs bs ⟨⟨L,hL,hok,rfl,rfl⟩,i1,h1,hi1,rfl⟩-
 refine⟨by simp[qR];simp(disch:=omega)only[go_sem],?_⟩
 simp(disch:=omega)only[go_sem]
 have h16:(L.map ExV.dy).length=n*n:=by rw[List.length_map];exact hL
 have h200:∀d∈L.map ExV.dy,d.xs.length≤200:=fun d hd=>by
  obtain⟨x,hx,rfl⟩:=List.mem_map.1 hd
  have:=(jS (hok x hx)).2.2.1
  show(lim x.m).length≤200
  omega
 rw[asF]
 generalize L.map ExV.dy=M at*
 refine qx (qW l hl i1 h1 hi1 12 (by omega)) ?_
 rintro r i2 h2 hi2 ⟨b,rfl⟩
 simp(disch:=omega)only[go_sem]
 cases b
 ·simp(disch:=omega)only[go_sem]
  refine qh [(0,100000000)] [.own 3 (qn DyV.cs M)] [.own 0 [.sl l.length (qj l),.v (.int .i64 i2),.v (.int .i64 h2)]] [.ag [.v (.int .i64 n),.rf 0 (0*3) (n*n)]] rfl (by simp(disch:=omega)only[go_sem]) (by simp(disch:=omega)only[go_sem]) (by simp) (by simp) ⟨⟨_,M,0,n*n,by omega,by omega,h16,h200,rfl,rfl⟩,_,_,hi2,rfl⟩
 ·simp(disch:=omega)only[go_sem]
  refine qx (qN l hl i2 h2 hi2 3 (by omega)) ?_
  rintro r i3 h3 hi3 ⟨q,hq,rfl⟩
  simp(disch:=omega)only[go_sem]
  by_cases c0:q=0
  ·simp(disch:=omega)only[go_sem,c0]
   refine jY (zC l hl i3 h3 hi3 [0,(n:Int)+1, -1] (by simp) (by simp)) ?_
   rintro r i4 h4 hi4 ⟨y,hy,rfl⟩
   clear hy
   simp(disch:=omega)only[go_sem]
   refine qh [(0,100000000)] [.own 3 (qn DyV.cs M)] [.own 0 [.sl l.length (qj l),.v (.int .i64 i4),.v (.int .i64 h4)]] [.ag [.v (.int .i64 y),.rf 0 (0*3) (n*n)]] rfl (by simp(disch:=omega)only[go_sem]) (by simp(disch:=omega)only[go_sem]) (by simp) (by simp) ⟨⟨_,M,0,n*n,by omega,by omega,h16,h200,rfl,rfl⟩,_,_,hi4,rfl⟩
  by_cases c1:q=1
  ·simp(disch:=omega)only[go_sem,c0,c1]
   have h1n:1≤n*n:=Nat.mul_le_mul hn.1 hn.1
   refine⟨by omega,?_⟩
   rw[show(((n*n:Nat):Int)-1).toNat=n*n-1 by omega]
   refine qh [(0,100000000)] [.own 3 (qn DyV.cs M)] [.own 0 [.sl l.length (qj l),.v (.int .i64 i3),.v (.int .i64 h3)]] [.ag [.v (.int .i64 n),.rf 0 (1*3) (n*n-1)]] rfl (by simp(disch:=omega)only[go_sem]) (by simp(disch:=omega)only[go_sem]) (by simp) (by simp) ⟨⟨_,M,1,n*n-1,by omega,by omega,h16,h200,rfl,rfl⟩,_,_,hi3,rfl⟩
  simp(disch:=omega)only[go_sem,c0,c1]
  refine qv rfl [⟨0,[],[]⟩,⟨1,[],[]⟩,⟨2,[1],[]⟩,⟨3,[1],[]⟩,⟨4,[],[]⟩,⟨5,[],[]⟩] (by kernel_rfl) ?_
  simp(disch:=omega)only[go_sem]
  have h1n:1≤n*n:=Nat.mul_le_mul hn.1 hn.1
  obtain⟨d0,M,rfl⟩:∃d0 M',M=d0::M':=by
   cases M with
   |nil=>simp at h16;omega
   |cons d M=>exact⟨d,M,rfl⟩
  refine qx (amS l hl i3 h3 hi3) ?_
  rintro r i4 h4 hi4 ⟨⟨S,xs,E⟩,hd,hr⟩
  obtain rfl:r=.ag [.v (.bool S),.sl xs.length (qe xs),.v (.int .i64 E)]:=hr
  dsimp only at hd
  simp(disch:=omega)only[go_sem,aIv]
  refine⟨by omega,by omega,qh [(0,100000000)] [.own 3 (qn DyV.cs (⟨S,xs,E⟩::M))] [.own 0 [.sl l.length (qj l),.v (.int .i64 i4),.v (.int .i64 h4)]] [.ag [.v (.int .i64 n),.rf 0 (0*3) (n*n)]] rfl (by simp(disch:=omega)only[go_sem]) (by simp(disch:=omega)only[go_sem]) (by simp) (by simp) ⟨⟨_,_,0,n*n,by simp at h16 ⊢;omega,by omega,by simp at h16 ⊢;omega,(fun d hd'=>?_),rfl,rfl⟩,_,_,hi4,rfl⟩⟩
  rcases List.mem_cons.1 hd' with rfl|hd'
  ·exact hd
  ·exact h200 d (List.mem_cons_of_mem _ hd')
theorem amQ(n:Nat)(hn:1≤n∧n≤4):Con Tryz.prog 154 false [.pt 10000000 0,.v (.int .i64 n)] [.own 0 [.sl l.length (qj l),.v (.int .i64 i),.v (.int .i64 h)]] (YE l aV8):=by
 have hq:=j7 hn.2
 refine Con.cur l i h (Q:=fun r hs=>(∀ob∈hs,ob.men fun _=>False)∧aV8 (qJ (rhp hs []) 6 r)) ((agj l hl i h hi n hn).mono ?_) fun _ _ h=>h
 rintro r hs bs ⟨⟨k,M,o,m,h1, -,h2,h3,rfl,rfl⟩,hc⟩
 exact⟨⟨fun ob ho=>by rw[List.mem_singleton.1 ho];exact of_eq_true af5,atf h1 (by omega) h3⟩,hc⟩
end
end Go.Ab
namespace Go.Ab
open Go Go.Proofs
/-! ### Minors and determinants-/
def mnC(n:Nat)(l:List ExV)(r c i:Nat):Nat→List ExV
 |0=>[]
 |j+1=>if i≠r∧j≠c then mnC n l r c i j++[l.getD (i*n+j) ex0]else mnC n l r c i j
def mnR(n:Nat)(l:List ExV)(r c:Nat):Nat→List ExV
 |0=>[]
 |i+1=>mnR n l r c i++mnC n l r c i n
def ExV.sgn(x:ExV)(k:Nat):ExV:=if k % 2=1 then x.neg else x
def bk2:Nat→List ExV→ExV
 |0,_=>ex1
 |n+1,l=>(List.range (n+1)).foldl (fun s j=>s.plus (((l.getD (0*(n+1)+j) ex0).times (bk2 n (mnR (n+1) l 0 j (n+1)))).sgn j)) ex0
end Go.Ab
namespace Go.Ab
open Go Go.Proofs
def bnB(x y:ExV):ExV:=if x.val 3000≤y.val 3000 then x else y
def bnw(x y:ExV):ExV:=if y.val 3000≤x.val 3000 then x else y
section
variable (l:List UInt8)(hl:l.length≤9223372036854775807)(i h:Int)(hi:0≤i∧i≤l.length)
include hl hi
end
end Go.Ab
namespace Go.Ab
open Go Go.Proofs
/-! ### Rounding down and up-/
def rnF(s:Bool)(a b:Nat)(low mode:Int):FlV:=⟨flK s mode (rq s a b mode) low,s,bkg s mode (rq s a b mode) low,bkh s mode (rq s a b mode) low⟩
def upQ(a b:Nat):Nat:=if a % b=0 then a/b else a/b+1
def isN(F:FlV):Bool:=decide (F.k=0)||decide (F.k=1)
theorem aPy(s:Bool)(a b:Nat):rq s a b 3=if s=true then upQ a b else a/b:=by
 unfold rq upQ rup
 by_cases h:a % b=0
 ·simp[h]
 ·cases s<;>simp[h]
theorem bh7(s:Bool)(a b:Nat):rq s a b 2=if s=true then a/b else upQ a b:=by
 unfold rq upQ rup
 by_cases h:a % b=0
 ·simp[h]
 ·cases s<;>simp[h]
def rqB(s:Bool)(a b:Nat)(low mode:Int):Prop:=rq s a b mode≠0∧1024<(bl (rq s a b mode):Int)+low
end Go.Ab
namespace Go.Ab
def stk(A B:Nat):Nat:=2*(A/B)+(if A % B=0 then 0 else 1)
end Go.Ab
namespace Go.Ab
def rtB(a:Nat):Nat→Nat
 |0=>0
 |n+1=>if(n+1)*(n+1)≤a then n+1 else rtB a n
def rt(a:Nat):Nat:=rtB a a
end Go.Ab
namespace Go.Ab
open Go Go.Proofs
end Go.Ab
namespace Go.Ab
open Go Go.Proofs
/-! ### A root,rounded-/
def stR(A S:Nat):Nat:=rt (A/S)*4+(if rt (A/S)*rt (A/S)*S=A then 0 else if A*4<(2*rt (A/S)+1)*(2*rt (A/S)+1)*S then 1 else if A*4=(2*rt (A/S)+1)*(2*rt (A/S)+1)*S then 2 else 3)
end Go.Ab
namespace Go.Ab
open Go Go.Proofs
def sqT(m:Nat)(e:Int):Int:=((bl m:Int)+e+1)/2
def sqL(m:Nat)(e:Int):Int:=JE (sqT m e)
def sqA(m:Nat)(e low:Int):Nat:=stR (ovA m (e-2*low)) (2^(-(e-2*low)).toNat)
def sqV(k:Int)(s:Bool)(m e mode:Int):FlV:=
 if k=3∨k=0 then⟨k,s,m,e⟩else if s=true then⟨3,false,0,0⟩else if k=2 then⟨k,s,m,e⟩else
  ⟨flK false mode (rq false (sqA m.toNat e (sqL m.toNat e)) 4 mode) (sqL m.toNat e),false,bkg false mode (rq false (sqA m.toNat e (sqL m.toNat e)) 4 mode) (sqL m.toNat e),bkh false mode (rq false (sqA m.toNat e (sqL m.toNat e)) 4 mode) (sqL m.toNat e)⟩
def sqG(k:Int)(s:Bool)(m e mode:Int):Int:=
 if k=3∨k=0 then 0 else if s=true then 16 else if k=2 then 0 else
  bk0 (sqT m.toNat e) (decide (sqA m.toNat e (sqL m.toNat e) % 4=0)) (rq false (sqA m.toNat e (sqL m.toNat e)) 4 mode) (sqL m.toNat e)
end Go.Ab
namespace Go.Ab
open Go Go.Proofs
def rtE(x:ExV)(low md:Int):ExV:=⟨false,rq false (sqA x.m x.e low) 4 md,low⟩
def boc(n:Int):Bool:=decide (-3000≤n)&&decide (n≤3000)
end Go.Ab
namespace Go.Ab
open Go Go.Proofs
theorem aKz{K:Nat}{x:ExV}{low:Int}(hx: -(K:Int)≤x.e)(hl: -(K:Int)≤low):(x.rnd low 3).val K≤x.val K∧x.val K≤(x.rnd low 2).val K:=by
 obtain⟨s,m,e⟩:=x
 dsimp only at hx
 by_cases h:low≤e∨m=0
 ·have:∀md,ExV.rnd ⟨s,m,e⟩ low md=⟨s,m,e⟩:=fun md=>by
   unfold ExV.rnd roS roM roE
   dsimp only
   rw[if_pos h,if_pos h,if_pos h]
  rw[this,this];exact⟨Int.le_refl _,Int.le_refl _⟩
 ·have hv:∀md,(ExV.rnd ⟨s,m,e⟩ low md).val K=sv s (rq s m (2^(low-e).toNat) md*2^(low-e).toNat)*2^(e+(K:Int)).toNat:=fun md=>by
   unfold ExV.rnd roS roM roE ExV.val
   dsimp only
   rw[if_neg h,if_neg h,if_neg h,abN]
   unfold dv
   rw[agY,Int.natCast_pow,Int.mul_assoc]
   congr 1
   show _=(2:Int)^_*_
   rw[←Int.pow_add]
   congr 1
   omega
  rw[hv,hv,aPy,bh7]
  have hB:0<2^(low-e).toNat:=Nat.pow_pos (by omega)
  have hP:(0:Int)<2^(e+(K:Int)).toNat:=Int.pow_pos (by omega)
  have hm:=Nat.div_add_mod m (2^(low-e).toNat)
  have hlt:=Nat.mod_lt m hB
  have h1:m/2^(low-e).toNat*2^(low-e).toNat≤m:=Nat.div_mul_le_self _ _
  have h2:m≤upQ m (2^(low-e).toNat)*2^(low-e).toNat:=by
   unfold upQ
   split
   ·rw[Nat.mul_comm];omega
   ·rw[Nat.add_mul,Nat.mul_comm];omega
  show _≤sv s m*2^(e+(K:Int)).toNat∧sv s m*2^(e+(K:Int)).toNat≤_
  generalize 2^(low-e).toNat=B at*
  generalize (2:Int)^(e+(K:Int)).toNat=P at*
  cases s
  ·rw[if_neg (by simp),if_neg (by simp)]
   exact⟨Int.mul_le_mul_of_nonneg_right (Int.ofNat_le.2 h1) (Int.le_of_lt hP),Int.mul_le_mul_of_nonneg_right (Int.ofNat_le.2 h2) (Int.le_of_lt hP)⟩
  ·rw[if_pos rfl,if_pos rfl]
   exact⟨Int.mul_le_mul_of_nonneg_right (Int.neg_le_neg (Int.ofNat_le.2 h2)) (Int.le_of_lt hP),Int.mul_le_mul_of_nonneg_right (Int.neg_le_neg (Int.ofNat_le.2 h1)) (Int.le_of_lt hP)⟩
theorem aSF(n e:Int)(hn: -9223372036854775808≤n∧n<9223372036854775808)(he: -12000≤e∧e≤12000):Con Tryz.prog 16 false [.v (.int .i64 n),.v (.int .i64 e)] [] (isA (.ag [.v (.bool ((ExV.mk (decide (n<0)) n.natAbs e).tel).s),.sl (lim ((ExV.mk (decide (n<0)) n.natAbs e).tel).m).length (qe (lim ((ExV.mk (decide (n<0)) n.natAbs e).tel).m)),.v (.int .i64 ((ExV.mk (decide (n<0)) n.natAbs e).tel).e)])):=by
 refine Con.frzA ?_
 have hw:zY (decide (n<0)) (lim n.natAbs)=true:=Q5 (by
  have:=qI (m:=n.natAbs) (B:=64) (zf.2 (by omega));omega) (by intro h;simp;omega)
 have c:=y3 ⟨decide (n<0),n.natAbs,e⟩ hw he
 generalize ExV.tel ⟨decide (n<0),n.natAbs,e⟩=y at*
 generalize ExV.fit ⟨decide (n<0),n.natAbs,e⟩=b at*
 refine Con.of_w (rs:=[.cell 4 42]) Tryz.func16 rfl Tryz.ntmps16 rfl ?_
 simp(disch:=omega)only[go_sem]
 refine qa (ZE n hn) ?_
 simp(disch:=omega)only[go_sem]
 refine qa (c) ?_
 simp(disch:=omega)only[go_sem]
 exact qp
end Go.Ab
namespace Go.Ab
open Go Go.Proofs
def rkI:Bool→Nat
 |false=>0
 |true=>1
def rkH(x:ExV):Bool→List (Nat×Ob)
 |false=>[(3,.own 1 [.v (.slice none 0 0)])]
 |true=>[(3,.own 1 [.rf 5 0 1]),(5,.own 3 [.v (.bool x.s),.sl (lim x.m).length (qe (lim x.m)),.v (.int .i64 x.e)])]
def ex5:ExV:=⟨false,5,0⟩
end Go.Ab
namespace Go.Ab
open Go Go.Proofs
def bod(M:List DyV):Prop:=M.length≤16∧∀d∈M,d.xs.length≤200
end Go.Ab
namespace Go.Ab
open Go Go.Proofs
end Go.Ab
namespace Go.Ab
open Go Go.Proofs
/-! ### Matrices that were told,or not-/
def bn4(n N:Nat)(T:List ExV):Prop:=(N=n∧matV n T)∨(N=0∧T=[])
def bn5(M:List DyV):Prop:=M.length≤16∧∀d∈M,d.xs.length≤200
theorem bit(M:List DyV):amn ((0:Nat):Int) M=false:=by unfold amn;simp
end Go.Ab
namespace Go.Ab
/-! ### Determinants of integers-/
def sgI(k:Nat):Int:=if k % 2=1 then-1 else 1
def skp(r i:Nat):Nat:=if i<r then i else i+1
def ans(A:Nat→Nat→Int)(r c:Nat):Nat→Nat→Int:=fun i j=>A (skp r i) (skp c j)
def jK:Nat→(Nat→Nat→Int)→Int
 |0,_=>1
 |n+1,A=>qk (fun j=>sgI j*(A 0 j*jK n (ans A 0 j))) (n+1)
theorem avz(A:Nat→Nat→Int):jK 1 A=A 0 0:=by
 simp[jK,qk,sgI]
theorem anw(A:Nat→Nat→Int):jK 2 A=A 0 0*A 1 1-A 0 1*A 1 0:=by
 simp[jK,qk,sgI,ans,skp];omega
theorem anv(A:Nat→Nat→Int):jK 3 A=A 0 0*(A 1 1*A 2 2-A 1 2*A 2 1)-A 0 1*(A 1 0*A 2 2-A 1 2*A 2 0)+A 0 2*(A 1 0*A 2 1-A 1 1*A 2 0):=by
 rw[jK]
 simp only[anw,qk,sgI,ans,skp]
 simp
 omega
theorem aK3(A:Nat→Nat→Int):jK 4 A=(A 0 0*A 1 1-A 0 1*A 1 0)*(A 2 2*A 3 3-A 2 3*A 3 2)-(A 0 0*A 1 2-A 0 2*A 1 0)*(A 2 1*A 3 3-A 2 3*A 3 1)
  +(A 0 0*A 1 3-A 0 3*A 1 0)*(A 2 1*A 3 2-A 2 2*A 3 1)+(A 0 1*A 1 2-A 0 2*A 1 1)*(A 2 0*A 3 3-A 2 3*A 3 0)
  -(A 0 1*A 1 3-A 0 3*A 1 1)*(A 2 0*A 3 2-A 2 2*A 3 0)+(A 0 2*A 1 3-A 0 3*A 1 2)*(A 2 0*A 3 1-A 2 1*A 3 0):=by
 rw[jK]
 simp only[anv,qk,sgI,ans,skp]
 simp
 grind
end Go.Ab
namespace Go.Ab
theorem aIz{n:Nat}(hn:n≤4)(A:Nat→Nat→Int):jK n (fun i j=>A j i)=jK n A:=by
 rcases(show n=0∨n=1∨n=2∨n=3∨n=4 by omega)with rfl|rfl|rfl|rfl|rfl
 ·rfl
 ·rw[avz,avz]
 ·rw[anw,anw];grind
 ·rw[anv,anv];grind
 ·rw[aK3,aK3];grind
theorem yZ:∀{n:Nat} {A B:Nat→Nat→Int},(∀i j,i<n→j<n→A i j=B i j)→jK n A=jK n B
 |0,_,_,_=>rfl
 |n+1,A,B,h=>by
  rw[jK,jK]
  refine qu fun j hj=>?_
  rw[h 0 j (by omega) hj,yZ (n:=n) (A:=ans A 0 j) (B:=ans B 0 j) fun i k hi hk=>?_]
  unfold ans skp
  exact h _ _ (by split<;>omega) (by split<;>omega)
def m2(A:Nat→Nat→Int)(r s c d:Nat):Int:=A r c*A s d-A r d*A s c
theorem abO(A:Nat→Nat→Int):jK 4 A=m2 A 0 1 0 1*m2 A 2 3 2 3-m2 A 0 1 0 2*m2 A 2 3 1 3+m2 A 0 1 0 3*m2 A 2 3 1 2+m2 A 0 1 1 2*m2 A 2 3 0 3-m2 A 0 1 1 3*m2 A 2 3 0 2+m2 A 0 1 2 3*m2 A 2 3 0 1:=aK3 A
def jg(n:Nat)(A B:Nat→Nat→Int):Nat→Nat→Int:=fun i j=>qk (fun t=>A i t*B t j) n
theorem bkT(A B:Nat→Nat→Int)(i j:Nat):jg 4 A B i j=A i 0*B 0 j+A i 1*B 1 j+A i 2*B 2 j+A i 3*B 3 j:=by
 simp[jg,qk]
theorem bkU(A B:Nat→Nat→Int)(i j:Nat):jg 3 A B i j=A i 0*B 0 j+A i 1*B 1 j+A i 2*B 2 j:=by
 simp[jg,qk]
theorem bkV(A B:Nat→Nat→Int)(i j:Nat):jg 2 A B i j=A i 0*B 0 j+A i 1*B 1 j:=by
 simp[jg,qk]
theorem bkW(A B:Nat→Nat→Int)(i j:Nat):jg 1 A B i j=A i 0*B 0 j:=by
 simp[jg,qk]
theorem aV9(A B:Nat→Nat→Int)(r s c d:Nat):m2 (jg 4 A B) r s c d=m2 A r s 0 1*m2 B 0 1 c d+m2 A r s 0 2*m2 B 0 2 c d+m2 A r s 0 3*m2 B 0 3 c d+m2 A r s 1 2*m2 B 1 2 c d+m2 A r s 1 3*m2 B 1 3 c d+m2 A r s 2 3*m2 B 2 3 c d:=by
 simp only[m2,bkT]
 grind
def q4(B:Nat→Nat→Int)(p q r s:Nat):Int:=m2 B p q 0 1*m2 B r s 2 3-m2 B p q 0 2*m2 B r s 1 3+m2 B p q 0 3*m2 B r s 1 2+m2 B p q 1 2*m2 B r s 0 3-m2 B p q 1 3*m2 B r s 0 2+m2 B p q 2 3*m2 B r s 0 1
theorem QO(B:Nat→Nat→Int)(p q s:Nat):q4 B p q p s=0:=by unfold q4 m2;grind
theorem aGM(B:Nat→Nat→Int)(p q r:Nat):q4 B p q r p=0:=by unfold q4 m2;grind
theorem aGL(B:Nat→Nat→Int)(p q s:Nat):q4 B p q q s=0:=by unfold q4 m2;grind
theorem abg(B:Nat→Nat→Int)(p q r:Nat):q4 B p q r q=0:=by unfold q4 m2;grind
theorem bnm(B:Nat→Nat→Int):q4 B 0 1 2 3=jK 4 B:=(abO B).symm
theorem bnl(B:Nat→Nat→Int):q4 B 0 2 1 3= -jK 4 B:=by rw[abO];unfold q4 m2;grind
theorem bnk(B:Nat→Nat→Int):q4 B 0 3 1 2=jK 4 B:=by rw[abO];unfold q4 m2;grind
theorem bnj(B:Nat→Nat→Int):q4 B 1 2 0 3=jK 4 B:=by rw[abO];unfold q4 m2;grind
theorem bni(B:Nat→Nat→Int):q4 B 1 3 0 2= -jK 4 B:=by rw[abO];unfold q4 m2;grind
theorem bnh(B:Nat→Nat→Int):q4 B 2 3 0 1=jK 4 B:=by rw[abO];unfold q4 m2;grind
theorem auj(A B:Nat→Nat→Int):jK 4 (jg 4 A B)=m2 A 0 1 0 1*m2 A 2 3 0 1*q4 B 0 1 0 1+m2 A 0 1 0 1*m2 A 2 3 0 2*q4 B 0 1 0 2+m2 A 0 1 0 1*m2 A 2 3 0 3*q4 B 0 1 0 3+m2 A 0 1 0 1*m2 A 2 3 1 2*q4 B 0 1 1 2+m2 A 0 1 0 1*m2 A 2 3 1 3*q4 B 0 1 1 3+m2 A 0 1 0 1*m2 A 2 3 2 3*q4 B 0 1 2 3+m2 A 0 1 0 2*m2 A 2 3 0 1*q4 B 0 2 0 1+m2 A 0 1 0 2*m2 A 2 3 0 2*q4 B 0 2 0 2+m2 A 0 1 0 2*m2 A 2 3 0 3*q4 B 0 2 0 3+m2 A 0 1 0 2*m2 A 2 3 1 2*q4 B 0 2 1 2+m2 A 0 1 0 2*m2 A 2 3 1 3*q4 B 0 2 1 3+m2 A 0 1 0 2*m2 A 2 3 2 3*q4 B 0 2 2 3+m2 A 0 1 0 3*m2 A 2 3 0 1*q4 B 0 3 0 1+m2 A 0 1 0 3*m2 A 2 3 0 2*q4 B 0 3 0 2+m2 A 0 1 0 3*m2 A 2 3 0 3*q4 B 0 3 0 3+m2 A 0 1 0 3*m2 A 2 3 1 2*q4 B 0 3 1 2+m2 A 0 1 0 3*m2 A 2 3 1 3*q4 B 0 3 1 3+m2 A 0 1 0 3*m2 A 2 3 2 3*q4 B 0 3 2 3+m2 A 0 1 1 2*m2 A 2 3 0 1*q4 B 1 2 0 1+m2 A 0 1 1 2*m2 A 2 3 0 2*q4 B 1 2 0 2+m2 A 0 1 1 2*m2 A 2 3 0 3*q4 B 1 2 0 3+m2 A 0 1 1 2*m2 A 2 3 1 2*q4 B 1 2 1 2+m2 A 0 1 1 2*m2 A 2 3 1 3*q4 B 1 2 1 3+m2 A 0 1 1 2*m2 A 2 3 2 3*q4 B 1 2 2 3+m2 A 0 1 1 3*m2 A 2 3 0 1*q4 B 1 3 0 1+m2 A 0 1 1 3*m2 A 2 3 0 2*q4 B 1 3 0 2+m2 A 0 1 1 3*m2 A 2 3 0 3*q4 B 1 3 0 3+m2 A 0 1 1 3*m2 A 2 3 1 2*q4 B 1 3 1 2+m2 A 0 1 1 3*m2 A 2 3 1 3*q4 B 1 3 1 3+m2 A 0 1 1 3*m2 A 2 3 2 3*q4 B 1 3 2 3+m2 A 0 1 2 3*m2 A 2 3 0 1*q4 B 2 3 0 1+m2 A 0 1 2 3*m2 A 2 3 0 2*q4 B 2 3 0 2+m2 A 0 1 2 3*m2 A 2 3 0 3*q4 B 2 3 0 3+m2 A 0 1 2 3*m2 A 2 3 1 2*q4 B 2 3 1 2+m2 A 0 1 2 3*m2 A 2 3 1 3*q4 B 2 3 1 3+m2 A 0 1 2 3*m2 A 2 3 2 3*q4 B 2 3 2 3:=by
 rw[abO]
 simp only[aV9]
 simp only[q4]
 grind
theorem aIB(A B:Nat→Nat→Int):jK 4 (jg 4 A B)=jK 4 A*jK 4 B:=by
 rw[auj]
 rw[QO B 0 1 1,QO B 0 1 2,QO B 0 1 3,aGL B 0 1 2,aGL B 0 1 3,QO B 0 2 1,QO B 0 2 2,QO B 0 2 3,abg B 0 2 1,aGL B 0 2 3,QO B 0 3 1,QO B 0 3 2,QO B 0 3 3,abg B 0 3 1,abg B 0 3 2,aGM B 1 2 0,abg B 1 2 0,QO B 1 2 2,QO B 1 2 3,aGL B 1 2 3,aGM B 1 3 0,abg B 1 3 0,QO B 1 3 2,QO B 1 3 3,abg B 1 3 2,aGM B 2 3 0,abg B 2 3 0,aGM B 2 3 1,abg B 2 3 1,QO B 2 3 3]
 rw[bnm,bnl,bnk,bnj,bni,bnh,abO A]
 grind
theorem JO{n:Nat}(hn:n≤4)(A B:Nat→Nat→Int):jK n (jg n A B)=jK n A*jK n B:=by
 rcases(show n=0∨n=1∨n=2∨n=3∨n=4 by omega)with rfl|rfl|rfl|rfl|rfl
 ·rfl
 ·rw[avz,avz,avz,bkW]
 ·rw[anw,anw,anw];simp only[bkV];grind
 ·rw[anv,anv,anv];simp only[bkU];grind
 ·exact aIB A B
end Go.Ab
