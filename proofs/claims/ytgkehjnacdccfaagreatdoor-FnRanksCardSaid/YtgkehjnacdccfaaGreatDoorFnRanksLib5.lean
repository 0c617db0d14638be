/- What the proof of this claim stands on: the walks of the functions and the plain laws, part 5. -/
import Derived.Test.YtgkehjnacdccfaaGreatDoorFnRanksLib4
set_option linter.unusedVariables false
set_option linter.unusedSimpArgs false
namespace Go.Ab
open Go Go.Proofs
def ExV.can(x:ExV):ExV:=⟨oS x.s x.m,oM x.m,oE x.m x.e⟩
def ExV.fit(x:ExV):Bool:=jW x.m x.e
def SpV.can(s:SpV):SpV:=⟨s.lo.can,s.hi.can⟩
def SpV.fit(s:SpV):Bool:=s.lo.fit&&s.hi.fit
theorem Js(x:ExV)(hx:x.bd (-400000) 400000):Con Tryz.prog 92 false [.ag [.v (.bool (x).s),.sl (lim (x).m).length (qh (lim (x).m)),.v (.int .i64 (x).e)]] [] (isA (if x.fit=true then .tu [.ag [.v (.bool (x.can).s),.sl (lim (x.can).m).length (qh (lim (x.can).m)),.v (.int .i64 (x.can).e)],.v (.bool true)]else .tu [.ag [.v (.bool (false)),.sl (lim (0)).length (qh (lim (0))),.v (.int .i64 (0))],.v (.bool false)])):=by
 obtain⟨a1,a2,a3⟩:=hx
 exact aQv x.s x.m x.e (by omega) (by omega)
set_option maxRecDepth 100000 in
theorem as5(l:List ExV)(hl:l.length≤1000)(hb:gbd (-400000) 400000 l):Con Tryz.prog 169 false [.sl l.length (qg ExV.cs l)] []
  (isA (if l.all ExV.fit=true then .tu [.sl l.length (qg ExV.cs (l.map ExV.can)),.v (.bool true)]else .tu [.sl 0 [],.v (.bool false)])):=by
 refine Con.frzA ?_
 refine Con.of_aw Tryz.func169 rfl Tryz.ntmps169 (by simp) (by simp) (by simp) (W.sound ?_)
 show @W Tryz.prog 28 ⟨_⟩ ⟨fun x σ=>@q9 _ _ _ ⟨_⟩ _ ⟨_⟩ x σ⟩ _ _
 simp(disch:=omega)only[go_sem]
 refine qc (fun i:Nat=>[(2,.v (.slice none 0 0)),(3,.v (.bool false)),(4,.rf 1 0 i),(9,.sl l.length (qg ExV.cs l)),(10,.v (.int .i64 l.length)),(11,.v (.int .i64 i))])
  (fun i=>[(1,.own 3 (qg ExV.cs (mpT l ExV.can i)))]) (fun i=>i≤l.length∧∀x∈l.take i,x.fit=true) (fun i=>l.length-i) 0 ⟨by omega,by simp⟩
  ((Le.ghost 4 1 3 (by simp(disch:=omega)only[go_sem]) (by simp(disch:=omega)only[go_sem])).trans (Le.lst [] _ _ rfl (by simp(disch:=omega)only[go_sem]) (by simp(disch:=omega)only[go_sem,yK,Q3]))) ?_
 rintro i ⟨hi,hf⟩
 simp(disch:=omega)only[go_sem]
 refine qe (fun h1=>?_) (fun h1=>?_)
 ·have hi2:i<l.length:=by omega
  have hci:=qk hi2
  have hcut:=qV (jp (F:=ExV.can) hi)
  have hml:=jp (F:=ExV.can) hi
  have hs:=yL (F:=ExV.can) ex0 hi2
  have hx:=qi hb hi2
  have hmem:l.getD i ex0∈l:=by rw[List.getD_eq_getElem?_getD,List.getElem?_eq_getElem hi2];exact List.getElem_mem _
  have htk:l.take (i+1)=l.take i++[l.getD i ex0]:=by
   rw[List.take_add_one,List.getElem?_eq_getElem hi2,List.getD_eq_getElem?_getD,List.getElem?_eq_getElem hi2];rfl
  generalize l.getD i ex0=x at*
  have cd:=Js x hx
  simp(disch:=omega)only[go_sem,h1,hci]
  refine⟨by omega,by omega,?_⟩
  cases hft:x.fit
  ·have hall:l.all ExV.fit=false:=by rw[List.all_eq_false];exact⟨x,hmem,by rw[hft];simp⟩
   rw[hft,if_neg (by simp)]at cd
   rw[hall,if_neg (by simp)]
   refine qb (cd) ?_
   simp(disch:=omega)only[go_sem]
   exact qq
  ·rw[hft,if_pos rfl]at cd
   refine qb (cd) ?_
   simp(disch:=omega)only[go_sem]
   simp(disch:=omega)only[go_sem,hcut,yR]
   refine⟨⟨by rw[hml];exact Nat.le_refl _,by omega⟩,qa (i+1) [(1,270000000)] ⟨by show i+1≤_;omega,fun y hy=>?_⟩ (by show l.length-(i+1)<l.length-i;omega) rfl (by simp(disch:=omega)only[go_sem];try omega) (by simp(disch:=omega)only[go_sem,hs])⟩
   rw[htk]at hy
   rcases List.mem_append.1 hy with h|h
   ·exact hf y h
   ·rw[List.mem_singleton.1 h];exact hft
 ·simp(disch:=omega)only[go_sem,h1]
  obtain rfl:i=l.length:=by omega
  rw[List.take_length]at hf
  have hall:l.all ExV.fit=true:=List.all_eq_true.2 hf
  rw[hall,if_pos rfl]
  refine ql [(0,1)] [.own 3 (qg ExV.cs (mpT l ExV.can l.length))] [] [.rf 0 0 l.length,.v (.bool true)] rfl (by simp(disch:=omega)only[go_sem]) (by simp(disch:=omega)only[go_sem]) (by simp) (by simp) ?_
  show qN _ 6 _=_
  simp(disch:=omega)only[go_sem,Yp,zg,QX,qV (l:=l.map ExV.can) (k:=l.length) (List.length_map ..)]
theorem asO(n:Nat)(l:List ExV)(hl:l.length≤1000)(hb:gbd (-400000) 400000 l):Con Tryz.prog 77 false [.ag [.v (.int .i64 (n)),.sl (l).length (qg ExV.cs (l))]] []
  (isA (if l.all ExV.fit=true then .tu [.ag [.v (.int .i64 n),.sl l.length (qg ExV.cs (l.map ExV.can))],.v (.bool true)]else .tu [.ag [.v (.int .i64 0),.sl 0 []],.v (.bool false)])):=by
 refine Con.frzA ?_
 have cd:=as5 l hl hb
 generalize l.map ExV.can=L at*
 cases hf:l.all ExV.fit
 ·rw[hf,if_neg (by simp)]at cd
  rw[if_neg (by simp)]
  refine Con.of_w (rs:=[.cell 2 25,.tmp 3]) Tryz.func77 rfl Tryz.ntmps77 rfl ?_
  simp(disch:=omega)only[go_sem]
  refine qb (cd) ?_
  simp(disch:=omega)only[go_sem]
  exact qq
 ·rw[hf,if_pos rfl]at cd
  rw[if_pos rfl]
  refine Con.of_w (rs:=[.cell 2 25,.tmp 3]) Tryz.func77 rfl Tryz.ntmps77 rfl ?_
  simp(disch:=omega)only[go_sem]
  refine qb (cd) ?_
  simp(disch:=omega)only[go_sem]
  exact qq
theorem JH(n:Nat)(l:List ExV)(x:ExV)(hl:l.length≤1000)(hb:gbd (-400000) 400000 l)(hx:x.bd (-400000) 400000):Con Tryz.prog 104 false [.ag [.v (.int .i64 (n)),.sl (l).length (qg ExV.cs (l))],.ag [.v (.bool (x).s),.sl (lim (x).m).length (qh (lim (x).m)),.v (.int .i64 (x).e)]] []
  (isA (if(l.all ExV.fit&&x.fit)=true then .tu [.ag [.v (.int .i64 n),.sl l.length (qg ExV.cs (l.map ExV.can))],.ag [.v (.bool (x.can).s),.sl (lim (x.can).m).length (qh (lim (x.can).m)),.v (.int .i64 (x.can).e)],.v (.bool true)]else .tu [.ag [.v (.int .i64 0),.sl 0 []],.ag [.v (.bool (false)),.sl (lim (0)).length (qh (lim (0))),.v (.int .i64 (0))],.v (.bool false)])):=by
 refine Con.frzA ?_
 have cd:=asO n l hl hb
 have cx:=Js x hx
 generalize l.map ExV.can=L at*
 cases hf:l.all ExV.fit<;>cases hg:x.fit
 ·rw[hf,if_neg (by simp)]at cd
  rw[hg,if_neg (by simp)]at cx
  rw[if_neg (by simp)]
  refine Con.of_w (rs:=[.cell 4 25,.cell 5 42,.tmp 6]) Tryz.func104 rfl Tryz.ntmps104 rfl ?_
  simp(disch:=omega)only[go_sem]
  refine qb (cd) ?_
  simp(disch:=omega)only[go_sem]
  refine qb (cx) ?_
  simp(disch:=omega)only[go_sem]
  exact qq (hp:=by simp(disch:=omega)only[go_sem,qt,List.length_nil,jt])
 ·rw[hf,if_neg (by simp)]at cd
  rw[hg,if_pos rfl]at cx
  rw[if_neg (by simp)]
  refine Con.of_w (rs:=[.cell 4 25,.cell 5 42,.tmp 6]) Tryz.func104 rfl Tryz.ntmps104 rfl ?_
  simp(disch:=omega)only[go_sem]
  refine qb (cd) ?_
  simp(disch:=omega)only[go_sem]
  refine qb (cx) ?_
  simp(disch:=omega)only[go_sem]
  exact qq (hp:=by simp(disch:=omega)only[go_sem,qt,List.length_nil,jt])
 ·rw[hf,if_pos rfl]at cd
  rw[hg,if_neg (by simp)]at cx
  rw[if_neg (by simp)]
  refine Con.of_w (rs:=[.cell 4 25,.cell 5 42,.tmp 6]) Tryz.func104 rfl Tryz.ntmps104 rfl ?_
  simp(disch:=omega)only[go_sem]
  refine qb (cd) ?_
  simp(disch:=omega)only[go_sem]
  refine qb (cx) ?_
  simp(disch:=omega)only[go_sem]
  exact qq (hp:=by simp(disch:=omega)only[go_sem,qt,List.length_nil,jt])
 ·rw[hf,if_pos rfl]at cd
  rw[hg,if_pos rfl]at cx
  rw[if_pos (by rfl)]
  refine Con.of_w (rs:=[.cell 4 25,.cell 5 42,.tmp 6]) Tryz.func104 rfl Tryz.ntmps104 rfl ?_
  simp(disch:=omega)only[go_sem]
  refine qb (cd) ?_
  simp(disch:=omega)only[go_sem]
  refine qb (cx) ?_
  simp(disch:=omega)only[go_sem]
  refine qm rfl [⟨0,[],[]⟩,⟨1,[0],[]⟩,⟨2,[1],[]⟩,⟨3,[],[]⟩,⟨4,[],[]⟩] (by kernel_rfl) ?_
  simp(disch:=omega)only[go_sem]
  exact qq
theorem asB(s:SpV)(hs:s.bd (-400000) 400000):Con Tryz.prog 140 false [.ag [.v (.bool (s).lo.s),.sl (lim (s).lo.m).length (qh (lim (s).lo.m)),.v (.int .i64 (s).lo.e),.v (.bool (s).hi.s),.sl (lim (s).hi.m).length (qh (lim (s).hi.m)),.v (.int .i64 (s).hi.e)]] []
  (isA (if s.fit=true then .tu [.ag [.v (.bool (s.can).lo.s),.sl (lim (s.can).lo.m).length (qh (lim (s.can).lo.m)),.v (.int .i64 (s.can).lo.e),.v (.bool (s.can).hi.s),.sl (lim (s.can).hi.m).length (qh (lim (s.can).hi.m)),.v (.int .i64 (s.can).hi.e)],.v (.bool true)]else .tu [.ag [.v (.bool (sp0).lo.s),.sl (lim (sp0).lo.m).length (qh (lim (sp0).lo.m)),.v (.int .i64 (sp0).lo.e),.v (.bool (sp0).hi.s),.sl (lim (sp0).hi.m).length (qh (lim (sp0).hi.m)),.v (.int .i64 (sp0).hi.e)],.v (.bool false)])):=by
 refine Con.frzA ?_
 have c1:=Js s.lo hs.1
 have c2:=Js s.hi hs.2
 unfold SpV.fit
 cases h1:s.lo.fit<;>cases h2:s.hi.fit
 ·rw[h1,if_neg (by simp)]at c1
  rw[h2,if_neg (by simp)]at c2
  rw[if_neg (by simp)]
  refine Con.of_w (rs:=[.cell 2 90,.tmp 3]) Tryz.func140 rfl Tryz.ntmps140 rfl ?_
  simp(disch:=omega)only[go_sem]
  refine qb (c1) ?_
  simp(disch:=omega)only[go_sem]
  refine qb (c2) ?_
  simp(disch:=omega)only[go_sem]
  exact qq (hp:=by simp(disch:=omega)only[go_sem,sp0,ex0,qt,List.length_nil,jt])
 ·rw[h1,if_neg (by simp)]at c1
  rw[h2,if_pos rfl]at c2
  rw[if_neg (by simp)]
  refine Con.of_w (rs:=[.cell 2 90,.tmp 3]) Tryz.func140 rfl Tryz.ntmps140 rfl ?_
  simp(disch:=omega)only[go_sem]
  refine qb (c1) ?_
  simp(disch:=omega)only[go_sem]
  refine qb (c2) ?_
  simp(disch:=omega)only[go_sem]
  exact qq (hp:=by simp(disch:=omega)only[go_sem,sp0,ex0,qt,List.length_nil,jt])
 ·rw[h1,if_pos rfl]at c1
  rw[h2,if_neg (by simp)]at c2
  rw[if_neg (by simp)]
  refine Con.of_w (rs:=[.cell 2 90,.tmp 3]) Tryz.func140 rfl Tryz.ntmps140 rfl ?_
  simp(disch:=omega)only[go_sem]
  refine qb (c1) ?_
  simp(disch:=omega)only[go_sem]
  refine qb (c2) ?_
  simp(disch:=omega)only[go_sem]
  exact qq (hp:=by simp(disch:=omega)only[go_sem,sp0,ex0,qt,List.length_nil,jt])
 ·rw[h1,if_pos rfl]at c1
  rw[h2,if_pos rfl]at c2
  rw[if_pos (by rfl)]
  refine Con.of_w (rs:=[.cell 2 90,.tmp 3]) Tryz.func140 rfl Tryz.ntmps140 rfl ?_
  simp(disch:=omega)only[go_sem]
  refine qb (c1) ?_
  simp(disch:=omega)only[go_sem]
  refine qb (c2) ?_
  simp(disch:=omega)only[go_sem]
  exact qq (hp:=by simp(disch:=omega)only[go_sem,SpV.can])
set_option maxRecDepth 100000 in
theorem as1(n:Nat)(l:List SpV)(hl:l.length≤1000)(hb:sbd (-400000) 400000 l):Con Tryz.prog 72 false [.ag [.v (.int .i64 (n)),.sl (l).length (qg SpV.cs (l))]] []
  (isA (if l.all SpV.fit=true then .tu [.ag [.v (.int .i64 n),.sl l.length (qg SpV.cs (l.map SpV.can))],.v (.bool true)]else .tu [.ag [.v (.int .i64 0),.sl 0 []],.v (.bool false)])):=by
 refine Con.frzA ?_
 refine Con.of_aw Tryz.func72 rfl Tryz.ntmps72 (by simp) (by simp) (by simp) (W.sound ?_)
 show @W Tryz.prog 35 ⟨_⟩ ⟨fun x σ=>@q9 _ _ _ ⟨_⟩ _ ⟨_⟩ x σ⟩ _ _
 simp(disch:=omega)only[go_sem]
 refine qc (fun i:Nat=>[(2,.pt 2 0),(3,.v (.bool false)),(4,.pt 0 0),(13,.sl l.length (qg SpV.cs l)),(14,.v (.int .i64 l.length)),(15,.v (.int .i64 i))])
  (fun i=>[(0,.own 0 [.v (.int .i64 n),.rf 1 0 i]),(1,.own 6 (qg SpV.cs (mpT l SpV.can i))),(2,.own 0 [.v (.int .i64 0),.v (.slice none 0 0)])]) (fun i=>i≤l.length∧∀x∈l.take i,x.fit=true) (fun i=>l.length-i) 0 ⟨by omega,by simp⟩
  ((Le.ghostC 60000000 1 1 6 (zo:=0) (cs:=[.v (.int .i64 n),.v (.slice none 0 0)]) (by simp(disch:=omega)only[go_sem]) rfl (by simp(disch:=omega)only[go_sem])).trans (Le.lst [(0,60000000),(2,40000000)] _ _ rfl (by simp(disch:=omega)only[go_sem]) (by simp(disch:=omega)only[go_sem,yK,ZQ,List.set_cons_succ,List.set_cons_zero]))) ?_
 rintro i ⟨hi,hf⟩
 simp(disch:=omega)only[go_sem]
 refine qe (fun h1=>?_) (fun h1=>?_)
 ·have hi2:i<l.length:=by omega
  have hci:=y9 hi2
  have hcut:=jg (jp (F:=SpV.can) hi)
  have hml:=jp (F:=SpV.can) hi
  have hs:=yL (F:=SpV.can) sp0 hi2
  have hx:=jJ hb hi2
  have hmem:l.getD i sp0∈l:=by rw[List.getD_eq_getElem?_getD,List.getElem?_eq_getElem hi2];exact List.getElem_mem _
  have htk:l.take (i+1)=l.take i++[l.getD i sp0]:=by
   rw[List.take_add_one,List.getElem?_eq_getElem hi2,List.getD_eq_getElem?_getD,List.getElem?_eq_getElem hi2];rfl
  generalize l.getD i sp0=x at*
  have cd:=asB x hx
  simp(disch:=omega)only[go_sem,h1,hci]
  refine⟨by omega,by omega,?_⟩
  cases hft:x.fit
  ·have hall:l.all SpV.fit=false:=by rw[List.all_eq_false];exact⟨x,hmem,by rw[hft];simp⟩
   rw[hft,if_neg (by simp)]at cd
   rw[hall,if_neg (by simp)]
   refine qb (cd) ?_
   simp(disch:=omega)only[go_sem]
   exact qq
  ·rw[hft,if_pos rfl]at cd
   refine qb (cd) ?_
   simp(disch:=omega)only[go_sem]
   simp(disch:=omega)only[go_sem,hcut,Qo]
   refine⟨⟨by rw[hml];exact Nat.le_refl _,by omega⟩,qa (i+1) [(1,330000000)] ⟨by show i+1≤_;omega,fun y hy=>?_⟩ (by show l.length-(i+1)<l.length-i;omega) rfl (by simp(disch:=omega)only[go_sem];try omega) (by simp(disch:=omega)only[go_sem,hs])⟩
   rw[htk]at hy
   rcases List.mem_append.1 hy with h|h
   ·exact hf y h
   ·rw[List.mem_singleton.1 h];exact hft
 ·simp(disch:=omega)only[go_sem,h1]
  obtain rfl:i=l.length:=by omega
  rw[List.take_length]at hf
  have hall:l.all SpV.fit=true:=List.all_eq_true.2 hf
  rw[hall,if_pos rfl]
  refine ql [(0,1)] [.own 6 (qg SpV.cs (mpT l SpV.can l.length))] [] [.ag [.v (.int .i64 n),.rf 0 0 l.length],.v (.bool true)] rfl (by simp(disch:=omega)only[go_sem]) (by simp(disch:=omega)only[go_sem]) (by simp) (by simp) ?_
  show qN _ 6 _=_
  simp(disch:=omega)only[go_sem,Yp,zg,QX,jg (l:=l.map SpV.can) (k:=l.length) (List.length_map ..)]
end Go.Ab
namespace Go.Ab
open Go Go.Proofs
def fct:Nat→Nat
 |0=>1
 |n+1=>(n+1)*fct n
theorem asg:∀n,n≤500→bl (fct n)≤9*n+1
 |0,_=>by decide
 |n+1,h=>by
  have h1:=asg n (by omega)
  have h2:=Y7 (n+1) (fct n)
  have h3:bl (n+1)≤9:=zD.2 (by omega)
  show bl ((n+1)*fct n)≤_
  omega
theorem asf:∀n,0<fct n
 |0=>by decide
 |n+1=>Nat.mul_pos (by omega) (asf n)
theorem aGX(n:Nat)(hn:n≤402):Con Tryz.prog 249 false [.v (.int .i64 n)] [] (isA (.sl (lim (fct n)).length (qh (lim (fct n))))):=by
 refine Con.frzA ?_
 refine Con.of_w (rs:=[.tmp 2]) Tryz.func249 rfl Tryz.ntmps249 rfl ?_
 simp(disch:=omega)only[go_sem]
 refine qb (zG 1 (by omega)) ?_
 simp(disch:=omega)only[go_sem]
 by_cases h1:n≤1
 ·have e1:fct n=1:=by
   rcases(by omega:n=0∨n=1)with rfl|rfl<;>rfl
  rw[e1]
  refine qc (fun _:Nat=>[(0,.v (.int .i64 n)),(2,.v (.slice none 0 0)),(3,.sl (lim (1)).length (qh (lim (1)))),(4,.v (.int .i64 2))]) (fun _=>[]) (fun _=>True) (fun _=>0) 0 trivial (Le.lst [] _ _ rfl (by simp(disch:=omega)only[go_sem]) (by simp(disch:=omega)only[go_sem])) ?_
  intro _ _
  simp(disch:=omega)only[go_sem]
  have q:decide ((2:Int)≤(n:Int))=false:=decide_eq_false (by omega)
  simp(disch:=omega)only[go_sem,q]
  exact qq
 ·refine qc (fun k:Nat=>[(0,.v (.int .i64 n)),(2,.v (.slice none 0 0)),(3,.sl (lim (fct k)).length (qh (lim (fct k)))),(4,.v (.int .i64 ((k:Int)+1)))]) (fun _=>[]) (fun k=>1≤k∧k≤n) (fun k=>n-k) 1 (by omega) (Le.lst [] _ _ rfl (by simp(disch:=omega)only[go_sem,show fct 1=1 from rfl,show((1:Nat):Int)+1=2 from rfl];try rfl) (by simp(disch:=omega)only[go_sem])) ?_
  rintro k ⟨hk1,hk⟩
  simp(disch:=omega)only[go_sem]
  refine qe (fun h2=>?_) (fun h2=>?_)
  ·simp(disch:=omega)only[go_sem,h2]
   have e1:(k:Int)+1=((k+1:Nat):Int):=by omega
   have l1:=qI (asg k (by omega))
   have l2:=qI (m:=k+1) (B:=9) (zD.2 (by omega))
   have cs:=zG (k+1) (by omega)
   rw[←e1]at cs
   refine qb (cs) ?_
   simp(disch:=omega)only[go_sem]
   refine qb (J2 (fct k) (k+1) (by omega) (by omega)) ?_
   simp(disch:=omega)only[go_sem]
   have e2:fct k*(k+1)=fct (k+1):=Nat.mul_comm _ _
   exact qa (k+1) [] ⟨by omega,by omega⟩ (by show n-(k+1)<n-k;omega) rfl (by simp(disch:=omega)only[go_sem,e2];try omega) (by simp(disch:=omega)only[go_sem])
  ·simp(disch:=omega)only[go_sem,h2]
   obtain rfl:n=k:=by omega
   exact qq
def tmS(W:Nat):Nat→Nat→Nat
 |_,0=>0
 |k,f+1=>if fct (k+1)*2^k<2^W then tmS W (k+1) f else k
def tmF(W:Nat):Nat:=tmS W 1 402
theorem asz(B:Nat)(hW:B≤400):Con Tryz.prog 162 true [.v (.int .i64 (-(B:Int)))] [] (isA (.v (.int .i64 (tmF B)))):=by
 refine Con.of_w (rs:=[.tmp 2]) Tryz.func162 rfl Tryz.ntmps162 rfl ?_
 simp(disch:=omega)only[go_sem]
 refine qc (fun k:Nat=>[(0,.v (.int .i64 (-(B:Int)))),(2,.v (.int .i64 0)),(3,.v (.int .i64 k))]) (fun _=>[]) (fun k=>1≤k∧k≤401∧tmS B k (403-k)=tmF B) (fun k=>402-k) 1 ⟨by omega,by omega,rfl⟩ (Le.lst [] _ _ rfl (by simp(disch:=omega)only[go_sem]) (by simp(disch:=omega)only[go_sem])) ?_
 rintro k ⟨hk1,hk2,ht⟩
 have e1:(k:Int)+1=((k+1:Nat):Int):=by omega
 have e2:0-(-(B:Int))=(B:Int):=by omega
 have cf:=aGX (k+1) (by omega)
 rw[←e1]at cf
 have b1:=asg (k+1) (by omega)
 have l1:=qI b1
 have b2:=Y6 (fct (k+1)) k
 have l2:=qI (m:=fct (k+1)*2^k) (B:=5000) (by omega)
 have b3:=Y6 1 B
 have b4:bl 1≤1:=zD.2 (by decide)
 have l3:=qI (m:=1*2^B) (B:=500) (by omega)
 have l4:=qI b4
 have cu:=z7 1 B (by omega) (by omega)
 rw[←e2]at cu
 have cc:=jf (fct (k+1)*2^k) (1*2^B) (by omega) (by omega)
 have hstep:tmS B k (403-k)=if fct (k+1)*2^k<2^B then tmS B (k+1) (403-(k+1))else k:=by
  rw[show 403-k=(403-(k+1))+1 by omega];rfl
 have hbig:fct (k+1)*2^k<2^B→k<B:=fun h=>by
  rcases Nat.lt_or_ge k B with h'|h'
  ·exact h'
  ·have g1:2^B≤2^k:=Nat.pow_le_pow_right (by omega) h'
   have g2:1*2^k≤fct (k+1)*2^k:=Nat.mul_le_mul_right _ (asf _)
   omega
 have hcl:=(ate ((fct (k+1)*2^k:Nat):Int) ((1*2^B:Nat):Int)).2.1
 generalize zQ ((fct (k+1)*2^k:Nat):Int) ((1*2^B:Nat):Int)=C at*
 generalize fct (k+1)=FF at*
 simp(disch:=omega)only[go_sem]
 refine qb (cf) ?_
 simp(disch:=omega)only[go_sem]
 refine qb (z7 FF k (by omega) (by omega)) ?_
 simp(disch:=omega)only[go_sem]
 refine qb (zG 1 (by omega)) ?_
 simp(disch:=omega)only[go_sem]
 refine qb (cu) ?_
 simp(disch:=omega)only[go_sem]
 refine qo (cc) ?_
 simp(disch:=omega)only[go_sem]
 refine qe (fun h1=>?_) (fun h1=>?_)
 ·simp(disch:=omega)only[go_sem,h1]
  have hlt:FF*2^k<2^B:=by have:=hcl.1 h1;omega
  have:=hbig hlt
  rw[if_pos hlt,ht]at hstep
  exact qa (k+1) [] ⟨by omega,by omega,hstep.symm⟩ (by show 402-(k+1)<402-k;omega) rfl (by simp(disch:=omega)only[go_sem];try omega) (by simp(disch:=omega)only[go_sem])
 ·simp(disch:=omega)only[go_sem,h1]
  have hlt:¬FF*2^k<2^B:=fun h=>h1 (hcl.2 (by omega))
  rw[if_neg hlt,ht]at hstep
  rw[hstep]
  exact qz
end Go.Ab
namespace Go.Ab
open Go
section
variable {P:Program}
theorem ZF{L:Nat→Option Blk→Prop}{w0:World}{R0:Nat→Prop}{N:Nat}{ops:Array Oper}{K:St→Prop}{Q':Exit→Act→World→Prop}{rest:List Nat}(hQ:∀σ a w,In L w0 R0 N σ a w→K σ→wpOps P ops Q' rest a w):
  ∀(r:List Oper) (k:Nat),(∀j,j<r.length→ops[k+j]? =r[j]?)→∀{e h a w},In L w0 R0 N ⟨e,h⟩ a w→ChF P N ops.toList K r e h→wpOps P ops Q' (List.range' k r.length++rest) a w
 | [],k,hk,e,h,a,w,hi,hs=>by
  simp only[List.length_nil,List.range'_zero,List.nil_append]
  exact hQ _ _ _ hi hs
 |⟨d,op,ty,pos,af,g⟩::r,k,hk,e,h,a,w,hi,hs=>by
  have ho:ops[k]? =some ⟨d,op,ty,pos,af,g⟩:=by
   have:=hk 0 (by simp)
   simpa using this
  have hr:∀j,j<r.length→ops[k+1+j]? =r[j]? :=fun j hj=>by
   have:=hk (j+1) (by simpa using hj)
   rw[show k+1+j=k+(j+1) by omega,this];simp
  have hd:dOk N d:=by cases g<;>exact hs.1
  simp only[List.length_cons,List.range'_succ,List.cons_append,wpOps,ho]
  have run:@Op1 P ⟨d⟩ ⟨op⟩ ⟨fun v hp=>ChF P N ops.toList K r (yZ e d v) hp⟩ e h→Oper.wp P ⟨d,op,ty,pos,af,g⟩ a w (wpOps P ops Q' (List.range' (k+1) r.length++rest)) Q':=fun hs=>by
   obtain⟨R,ι,hR,hinv⟩:=hi.inv
   refine afT hinv (Op1.sound hs ty pos af g) fun x w' R' ι' av hp' hR' hK hx hm hi'=>?_
   exact ZF hQ r (k+1) hr (hi.put (o:=⟨d,op,ty,pos,af,g⟩) hd hR hR' hx hm hi') hK
  have skip:ChF P N ops.toList K r (yZ e d (.v (.tuple ⟨[]⟩))) h→wpOps P ops Q' (List.range' (k+1) r.length++rest) (a.put d undef) w:=fun hs=>by
   obtain⟨R,ι,hR,hinv⟩:=hi.inv
   exact ZF hQ r (k+1) hr (hi.put (o:=⟨d,op,ty,pos,af,g⟩) hd hR (fun _ h=>.inl h) (.fr _ _ (.v _)) (by simp[AV.All]) hinv) hs
  cases g with
  |none=>
   rw[if_pos (by simp[Region.wanted])]
   exact .inl (run hs.2)
  |some p=>
   obtain⟨j,want⟩:=p
   have h2:=hs.2
   unfold aaC at h2
   dsimp only at h2
   split at h2
   ·rename_i d' hd'
    have key:∀v c,e d'=.v v→(match v with| .bool b=>some b|_=>none)=c→yielded ops a.tmps j=c:=by
     intro v c hv hc
     obtain⟨R,ι,hR,hinv⟩:=hi.inv
     have:=hinv.env d'
     change Rep _ _ _ _ (e d')at this
     rw[hv]at this
     have:=this.v_inv
     unfold yielded
     rw[Array.getElem?_toList]at hd'
     rw[hd']
     rw[Array.getD_eq_getD_getElem?]at this
     cases ee:a.tmps[d']? with
     |none=>
      rw[ee]at this
      subst hc
      have:v=undef:=this.symm
      subst this;simp[ee,undef]
     |some y=>rw[ee]at this;simp at this;subst this;subst hc;simp only[Option.bind_some,ee];cases y<;>rfl
    unfold Jx at h2
    split at h2
    ·rename_i b hb
     have hy:=key _ _ hb rfl
     have hw:Region.wanted ⟨d,op,ty,pos,af,some (j,want)⟩ (yielded ops a.tmps)=(b==want):=by
      simp only[Region.wanted,hy]
      cases b<;>cases want<;>rfl
     rw[hw]
     cases hbw:b==want with
     |true=>rw[if_pos rfl];exact .inl (run (h2.1 hbw))
     |false=>rw[if_neg (by simp)];exact skip (h2.2 hbw)
    ·rename_i hb
     have hy:=key _ _ hb rfl
     have hw:Region.wanted ⟨d,op,ty,pos,af,some (j,want)⟩ (yielded ops a.tmps)=false:=by
      simp only[Region.wanted,hy]
      cases want<;>rfl
     rw[hw,if_neg (by simp)]
     exact skip (h2.2 rfl)
    ·exact h2.elim
   ·exact h2.elim
theorem aQj{N:Nat}{l:List Oper}{Q:St→Prop}{e:Nat→AV}{h:Nat→Ob}{E:List (Nat×AV)}{H:List (Nat×Ob)}(hl:Le ⟨e,h⟩ ⟨ofL .un E,ofH H⟩)(hd:@alb P N ⟨l⟩ ⟨Q⟩ ⟨ofL .un E,ofH H⟩):@alb P N ⟨l⟩ ⟨Q⟩ ⟨e,h⟩:=
 fun id=>AW.le hl (hd id)
theorem AW.regSplit{N:Nat}{Q:Exit→St→Prop}{e:Nat→AV}{h:Nat→Ob}{id:Nat}{l:List Oper}{y:Code}(k:Nat){pre suf:List Oper}(hp:l.take k=pre)(hs:l.drop k=suf){E:List (Nat×AV)}{H:List (Nat×Ob)}
  (h1:@Ch P N ⟨l⟩ ⟨pre⟩ ⟨fun σ'=>Le σ' ⟨ofL .un E,ofH H⟩⟩ e h) (h2:@Ch P N ⟨l⟩ ⟨suf⟩ ⟨fun σ=>@W P N ⟨y⟩ ⟨Q⟩ σ.env σ.hp⟩ (ofL .un E) (ofH H)):AW P N (.seq (.region id ⟨l⟩ false) y) Q ⟨e,h⟩:=by
 refine AW.seq fun L w0 R0 a w hi=>wp_region ?_
 have hl:l=pre++suf:=by rw[←hp,←hs,List.take_append_drop]
 have hr:List.range (⟨l⟩:Array Oper).size=List.range' 0 pre.length++(List.range' pre.length suf.length++[]):=by
  have hsz:(⟨l⟩:Array Oper).size=pre.length+suf.length:=by show l.length=_;rw[hl,List.length_append]
  rw[hsz,List.append_nil,List.range_eq_range',List.range'_append_1.symm,Nat.zero_add]
 rw[hr]
 refine ZF (K:=fun σ'=>Le σ' ⟨ofL .un E,ofH H⟩) (fun σ a w hi2 hle=>?_) pre 0 (fun j hj=>?_) hi h1
 ·refine ZF (K:=fun σ=>@W P N ⟨y⟩ ⟨Q⟩ σ.env σ.hp) (fun σ a w hi3 hq=>?_) suf pre.length (fun j hj=>?_) (hle L w0 R0 N a w hi2) h2
  ·exact⟨σ,hi3,W.sound hq⟩
  ·rw[List.getElem?_toArray,hl,List.getElem?_append_right (by omega),Nat.add_sub_cancel_left]
 ·rw[List.getElem?_toArray,hl,Nat.zero_add,List.getElem?_append_left hj]
end
end Go.Ab
namespace Go.Ab
open Go Go.Proofs
instance (lo hi:Int)(x:ExV):Decidable (x.bd lo hi):=inferInstanceAs (Decidable ((x.m=0→x.s=false)∧lo≤x.e∧(bl x.m:Int)+x.e≤hi))
instance (lo hi:Int)(x:SpV):Decidable (x.bd lo hi):=inferInstanceAs (Decidable (x.lo.bd lo hi∧x.hi.bd lo hi))
instance (lo hi:Int)(l:List ExV):Decidable (gbd lo hi l):=inferInstanceAs (Decidable (∀x∈l,x.bd lo hi))
instance (lo hi:Int)(l:List SpV):Decidable (sbd lo hi l):=inferInstanceAs (Decidable (∀x∈l,x.bd lo hi))
def hB:List SpV:=(yy 1 [ex0] (ex1.shift 0)).map ptS
def hSt:Nat→List SpV×List SpV
 |0=>((gId 1).map ptS,(gId 1).map ptS)
 |i+1=>(aaI (hSt i).1 ((jT 1 (hSt i).2 hB).map fun s=>s.divd (i+1) (-22)),(jT 1 (hSt i).2 hB).map fun s=>s.divd (i+1) (-22))
def aRx:List SpV:=(hSt 7).1.map fun s=>s.fat (ex1.shift (-22))
def aIW:List SpV:=aRx.map fun s=>s.out (-14)
theorem Jb:∀i,(hSt i).1.length=1∧(hSt i).2.length=1
 |0=>by decide+kernel
 |i+1=>⟨aaH.trans (Jb i).1,by show(List.map _ _).length=1;rw[List.length_map];exact Jc⟩
theorem arZ:∀i,i<8→sbd (-100000) 100000 (hSt i).1∧sbd (-100000) 100000 (hSt i).2∧sbd (-100000) 100000 (jT 1 (hSt i).2 hB):=by decide+kernel
theorem bjP:tmF 22=7:=by decide+kernel
set_option maxRecDepth 100000 in
theorem as2(n:Nat)(h1:n=1):Con Tryz.prog 71 false [.ag [.v (.int .i64 (n)),.sl ([ex0]).length (qg ExV.cs ([ex0]))],.v (.int .i64 (-10))] [] (isA (.ag [.v (.int .i64 (n)),.sl (aIW).length (qg SpV.cs (aIW))])):=by
 refine Con.frzA ?_
 have hn:n≤4:=by omega
 have cn:=YV n [ex0] hn (by rw[h1];rfl) (by decide+kernel)
 rw[show yt n [ex0] n=ex0 by rw[h1];decide+kernel]at cn
 have cz:Con Tryz.prog 158 true [.ag [.v (.bool (ex0).s),.sl (lim (ex0).m).length (qh (lim (ex0).m)),.v (.int .i64 (ex0).e)]] [] (isA (.v (.bool true))):=yT ex0.s ex0.m ex0.e
 have cs:=Q7 ex1 0 (by decide) (by decide)
 have cg:=afh n [ex0] (ex1.shift 0) hn (by rw[h1];rfl) (by decide+kernel) (by decide+kernel)
 have cf:=Jr n (yy n [ex0] (ex1.shift 0)) (by show(gl _ _ _).length≤_;rw[yw,h1];decide)
 rw[show(yy n [ex0] (ex1.shift 0)).map ptS=hB by rw[h1];rfl]at cf
 have ci:=aQu n hn
 have cfi:=Jr n (gId n) (by show(gl _ _ _).length≤_;rw[yw,h1];decide)
 rw[show(gId n).map ptS=(hSt 0).1 by rw[h1];rfl]at cfi
 have ct:Con Tryz.prog 162 true [.v (.int .i64 (-22))] [] (isA (.v (.int .i64 7))):=by have:=asz 22 (by omega);rw[bjP]at this;exact this
 have hw:(-10-2*0-12:Int)= -22:=rfl
 have cs2:=Q7 ex1 (-22) (by decide) (by decide)
 have cft:=aGZ n (hSt 7).1 (ex1.shift (-22)) (by rw[(Jb 7).1];decide) (j9 (arZ 7 (by decide)).1 (by omega) (by omega)) (by decide+kernel)
 change Con _ _ _ _ _ (isA (.ag [.v (.int .i64 (n)),.sl (aRx).length (qg SpV.cs (aRx))]))at cft
 have cot:=aGY n aRx (-14) (by show(List.map _ _).length≤_;rw[List.length_map,(Jb 7).1];decide) (by decide+kernel) (by omega)
 change Con _ _ _ _ _ (isA (.ag [.v (.int .i64 (n)),.sl (aIW).length (qg SpV.cs (aIW))]))at cot
 generalize yy n [ex0] (ex1.shift 0)=G at*
 generalize gId n=I at*
 refine Con.of_w (rs:=[.cell 4 107]) Tryz.func71 rfl Tryz.ntmps71 rfl ?_
 simp(disch:=omega)only[go_sem]
 refine qb (cn) ?_
 simp(disch:=omega)only[go_sem]
 refine qo (cz) ?_
 simp(disch:=omega)only[go_sem]
 rw[hw]
 refine qm rfl [⟨0,[],[]⟩,⟨2,[0],[]⟩,⟨3,[0],[]⟩,⟨7,[0],[]⟩,⟨1,[0],[100000000]⟩,⟨4,[0],[100000000]⟩,⟨5,[],[100000000]⟩,⟨6,[],[100000000]⟩,⟨8,[],[]⟩] (by kernel_rfl) ?_
 simp(disch:=omega)only[go_sem]
 refine qb (ZD) ?_
 simp(disch:=omega)only[go_sem]
 refine qb (cs) ?_ (by simp(disch:=omega)only[go_sem,show(0-0:Int)=0 from rfl])
 simp(disch:=omega)only[go_sem]
 refine qb (cg) ?_
 simp(disch:=omega)only[go_sem]
 refine qb (cf) ?_
 simp(disch:=omega)only[go_sem]
 refine qb (ci) ?_
 simp(disch:=omega)only[go_sem]
 refine qb (cfi) ?_
 simp(disch:=omega)only[go_sem]
 refine qc (fun i:Nat=>[(1,.v (.int .i64 (-10))),(4,.pt 0 0),(6,.v (.int .i64 0)),(7,.v (.int .i64 (-22))),(8,.pt 1 0),(9,.pt 2 0),(10,.pt 3 0),(11,.v (.int .i64 ((i:Int)+1)))])
  (fun i=>[(0,.own 0 [.v (.int .i64 0),.v (.slice none 0 0)]),(1,.own 0 [.v (.int .i64 n),.sl hB.length (qg SpV.cs hB)]),(2,.own 0 [.v (.int .i64 n),.sl (hSt i).1.length (qg SpV.cs (hSt i).1)]),(3,.own 0 [.v (.int .i64 n),.sl (hSt i).2.length (qg SpV.cs (hSt i).2)])])
  (fun i=>i≤7) (fun i=>7-i) 0 (by omega)
  (Le.lst [(0,60000000),(1,100000000),(2,110000000),(3,120000000)] _ _ rfl (by simp(disch:=omega)only[go_sem,show(0:Int)+1=1 from rfl]) (by simp(disch:=omega)only[go_sem,show(hSt 0).2=(hSt 0).1 from rfl])) ?_
 intro i hi
 obtain⟨b1,b2,b3⟩:=arZ i (by omega)
 obtain⟨l1,l2⟩:=Jb i
 have ei:(i:Int)+1=((i+1:Nat):Int):=by omega
 have hBl:hB.length=1:=by decide+kernel
 have hBb:sbd (-190000) 190000 hB:=by decide+kernel
 have cT:=alC n (hSt i).2 hB hn (by rw[h1,l2]) (by rw[h1,hBl]) (j9 b2 (by omega) (by omega)) hBb
 rw[show jT n (hSt i).2 hB=jT 1 (hSt i).2 hB by rw[h1]]at cT
 have hTl:(jT 1 (hSt i).2 hB).length=1:=Jc
 have cD:=aG0 n (jT 1 (hSt i).2 hB) (i+1) (-22) (by omega) b3 (by omega) (by omega) (by omega)
 rw[←ei]at cD
 change Con _ _ _ _ _ (isA (.ag [.v (.int .i64 (n)),.sl ((hSt (i+1)).2).length (qg SpV.cs ((hSt (i+1)).2))]))at cD
 simp(disch:=omega)only[go_sem]
 refine qo (ct) ?_
 simp(disch:=omega)only[go_sem]
 refine qe (fun h2=>?_) (fun h2=>?_)
 ·have b4:=(arZ (i+1) (by omega)).2.1
  have cP:=as4 n (hSt i).1 (hSt (i+1)).2 (by omega) (by rw[l1];exact(Jb (i+1)).2) (j9 b1 (by omega) (by omega)) (j9 b4 (by omega) (by omega))
  change Con _ _ _ _ _ (isA (.ag [.v (.int .i64 (n)),.sl ((hSt (i+1)).1).length (qg SpV.cs ((hSt (i+1)).1))]))at cP
  generalize jT 1 (hSt i).2 hB=T at*
  generalize hS2:(hSt (i+1)).2=S2 at*
  generalize hS1:(hSt (i+1)).1=S1 at*
  simp(disch:=omega)only[go_sem,h2]
  refine qb (cT) ?_
  simp(disch:=omega)only[go_sem]
  refine qb (cD) ?_
  simp(disch:=omega)only[go_sem]
  refine qb (cP) ?_
  simp(disch:=omega)only[go_sem]
  exact qa (i+1) [] (by show i+1≤7;omega) (by show 7-(i+1)<7-i;omega) rfl (by simp(disch:=omega)only[go_sem];try omega) (by simp(disch:=omega)only[go_sem,hS1,hS2])
 ·obtain rfl:i=7:=by omega
  simp(disch:=omega)only[go_sem,h2]
  refine qm rfl [⟨0,[],[]⟩,⟨2,[0],[]⟩,⟨1,[0],[]⟩,⟨3,[0],[]⟩,⟨4,[],[]⟩,⟨5,[],[]⟩] (by kernel_rfl) ?_
  simp(disch:=omega)only[go_sem]
  refine qb (ZD) ?_
  simp(disch:=omega)only[go_sem]
  refine qb (cs2) ?_
  simp(disch:=omega)only[go_sem]
  refine qb (cft) ?_
  simp(disch:=omega)only[go_sem]
  refine qc (fun _:Nat=>[(1,.v (.int .i64 (-10))),(4,.pt 0 0),(9,.pt 2 0),(58,.v (.int .i64 0)),(59,.v (.int .i64 0))])
   (fun _=>[(0,.own 0 [.v (.int .i64 0),.v (.slice none 0 0)]),(2,.own 0 [.v (.int .i64 n),.sl aRx.length (qg SpV.cs aRx)])]) (fun _=>True) (fun _=>0) 0 trivial (Le.lst [] _ _ rfl (by simp(disch:=omega)only[go_sem]) (by simp(disch:=omega)only[go_sem])) ?_
  intro _ _
  have q:decide ((0:Int)<0)=false:=rfl
  simp(disch:=omega)only[go_sem,q]
  refine qb (cot) ?_ (by simp(disch:=omega)only[go_sem,show(-10-4:Int)= -14 from rfl])
  simp(disch:=omega)only[go_sem]
  exact qq
end Go.Ab
namespace Go.Ab
open Go Go.Proofs
section
variable (g:Nat)(p:DyV→Bool)
theorem alK(x:DyV)(hf:Con Tryz.prog g true [.ag x.cs] [] (isA (.v (.bool (p x)))))(hg:qs Tryz.prog g=True):
  Con Tryz.prog 297 true [.ag x.cs,.fp [.fn g []] 0] [] (isA (.v (.bool (!p x)))):=by
 unfold DyV.cs at hf ⊢
 refine Con.of_w (rs:=[.tmp 3]) Tryz.func297 rfl Tryz.ntmps297 rfl ?_
 simp(disch:=omega)only[go_sem,hg]
 refine qy hf (by simp(disch:=omega)only[go_sem]) ?_
 rintro r hs ⟨rfl,rfl,_⟩
 refine⟨by simp[qG],?_⟩
 simp(disch:=omega)only[go_sem]
 exact qz
theorem aff(f:Nat)(caps:List AV)(xs:List DyV)(hl:xs.length≤2^40)(hf:∀x∈xs,Con Tryz.prog f true (.ag x.cs::caps) [] (isA (.v (.bool (p x)))))(hg:qs Tryz.prog f=True)
  (hc:∀h:Nat→Ob,caps.map (qN h 6)=caps) (hc5:∀h:Nat→Ob,caps.map (qN h 5)=caps) (hn:∀ks,AllL (yn ks) caps) (hr:∀ρ,zU ρ caps=caps):
  Con Tryz.prog 318 true [.sl xs.length (qg DyV.cs xs),.fn f caps] [] (fun r hs bs=>∃i:Int,r=.v (.int .i64 i)∧hs=[]∧(0≤i↔∃x∈xs,p x=true)):=by
 refine Con.of_aw Tryz.func318 rfl Tryz.ntmps318 (by simp) (by simp) (by simp) (W.sound ?_)
 show @W Tryz.prog 19 ⟨_⟩ ⟨fun x σ=>@q9 _ _ _ ⟨_⟩ _ ⟨_⟩ x σ⟩ _ _
 simp(disch:=omega)only[go_sem]
 refine qc (fun i:Nat=>[(0,.sl xs.length (qg DyV.cs xs)),(1,.fn f caps),(6,.sl xs.length (qg DyV.cs xs)),(7,.v (.int .i64 xs.length)),(8,.v (.int .i64 i))])
  (fun _=>[]) (fun i=>i≤xs.length∧∀j,j<i→p (xs.getD j ⟨false,[],0⟩)=false) (fun i=>xs.length-i) 0 ⟨by omega,fun j hj=>by omega⟩ (Le.lst [] _ _ rfl (by simp(disch:=omega)only[go_sem,hr,hn]) (by simp(disch:=omega)only[go_sem])) ?_
 rintro i ⟨hi,hp⟩
 simp(disch:=omega)only[go_sem]
 refine qe (fun h1=>?_) (fun h1=>?_)
 ·have hcut:=QU (l:=xs) Zf (i:=i) (by omega) ⟨false,[],0⟩
  simp(disch:=omega)only[go_sem,h1,hcut,hg]
  refine⟨by omega,by omega,qy (hf (xs.getD i ⟨false,[],0⟩) (by rw[List.getD_eq_getElem?_getD,List.getElem?_eq_getElem (by omega)];exact List.getElem_mem _)) (by simp(disch:=omega)only[go_sem,hc,hc5]) ?_⟩
  rintro r hs ⟨rfl,rfl,_⟩
  refine⟨by simp[qG],?_⟩
  simp(disch:=omega)only[go_sem]
  refine Qe (fun h2=>?_) (fun h2=>?_)
  ·simp(disch:=omega)only[go_sem,h2]
   refine qC (by simp(disch:=omega)only[go_sem]) (by simp(disch:=omega)only[go_sem]) ⟨i,rfl,rfl,?_⟩
   refine⟨fun _=>⟨_,?_,h2⟩,fun _=>by omega⟩
   rw[List.getD_eq_getElem?_getD,List.getElem?_eq_getElem (by omega)];exact List.getElem_mem _
  ·simp(disch:=omega)only[go_sem,h2]
   refine qa (i+1) [] ⟨by omega,fun j hj=>?_⟩ (by show xs.length-(i+1)<xs.length-i;omega) rfl (by simp(disch:=omega)only[go_sem,hr,hn];try omega) (by simp(disch:=omega)only[go_sem])
   rcases(by omega:j<i∨j=i)with h|h
   ·exact hp j h
   ·subst h;exact h2
 ·simp(disch:=omega)only[go_sem,h1]
  refine qC (by simp(disch:=omega)only[go_sem]) (by simp(disch:=omega)only[go_sem]) ⟨-1,rfl,rfl,?_⟩
  refine⟨fun h=>by omega,fun⟨x,hx,hpx⟩=>?_⟩
  obtain⟨j,hj,rfl⟩:=List.getElem_of_mem hx
  have:=hp j (by omega)
  rw[List.getD_eq_getElem?_getD,List.getElem?_eq_getElem hj]at this
  simp only[Option.getD_some]at this
  rw[this]at hpx;cases hpx
theorem JJ(f:Nat)(caps:List AV)(xs:List DyV)(hl:xs.length≤2^40)(hf:∀x∈xs,Con Tryz.prog f true (.ag x.cs::caps) [] (isA (.v (.bool (p x)))))(hg:qs Tryz.prog f=True)
  (hc:∀h:Nat→Ob,caps.map (qN h 6)=caps) (hc5:∀h:Nat→Ob,caps.map (qN h 5)=caps) (hn:∀ks,AllL (yn ks) caps) (hr:∀ρ,zU ρ caps=caps):
  Con Tryz.prog 296 true [.sl xs.length (qg DyV.cs xs),.fn f caps] [] (isA (.v (.bool (xs.any p)))):=by
 refine Con.of_aw Tryz.func296 rfl Tryz.ntmps296 (by simp) (by simp) (by simp) (W.sound ?_)
 show @W Tryz.prog 9 ⟨_⟩ ⟨fun x σ=>@q9 _ _ _ ⟨_⟩ _ ⟨_⟩ x σ⟩ _ _
 simp(disch:=omega)only[go_sem]
 refine qy (aff p f caps xs hl hf hg hc hc5 hn hr) (by simp(disch:=omega)only[go_sem,hc,hc5]) ?_
 rintro r hs ⟨i,rfl,rfl,hi⟩
 refine⟨by simp[qG],?_⟩
 simp(disch:=omega)only[go_sem]
 refine qC (by simp(disch:=omega)only[go_sem]) (by simp(disch:=omega)only[go_sem]) ⟨?_,rfl,rfl⟩
 have:decide (0≤i)=xs.any p:=by rw[Bool.eq_iff_iff,decide_eq_true_eq,hi,List.any_eq_true]
 rw[this];rfl
theorem as9(xs:List DyV)(hl:xs.length≤2^40)(hf:∀x∈xs,Con Tryz.prog g true [.ag x.cs] [] (isA (.v (.bool (p x)))))(hg:qs Tryz.prog g=True):
  Con Tryz.prog 250 true [.sl xs.length (qg DyV.cs xs),.fn g []] [] (isA (.v (.bool (xs.all p)))):=by
 refine Con.of_aw Tryz.func250 rfl Tryz.ntmps250 (by simp) (by simp) (by simp) (W.sound ?_)
 show @W Tryz.prog 9 ⟨_⟩ ⟨fun x σ=>@q9 _ _ _ ⟨_⟩ _ ⟨_⟩ x σ⟩ _ _
 simp(disch:=omega)only[go_sem]
 refine qy (JJ (fun x=> !p x) 297 [.fp [.fn g []] 0] xs hl (fun x hx=>alK g p x (hf x hx) hg) (by simp(disch:=omega)only[go_sem]) (fun h=>rfl) (fun h=>rfl) (fun ks=>by simp(disch:=omega)only[go_sem]) (fun ρ=>rfl)) (by simp(disch:=omega)only[go_sem]) ?_
 rintro r hs ⟨rfl,rfl,_⟩
 refine⟨by simp[qG],?_⟩
 simp(disch:=omega)only[go_sem]
 refine qC (by simp(disch:=omega)only[go_sem]) (by simp(disch:=omega)only[go_sem]) ⟨?_,rfl,rfl⟩
 have:(!xs.any fun x=> !p x)=xs.all p:=by rw[List.all_eq_not_any_not]
 rw[this];rfl
end
def DyV.ok(x:DyV):Bool:=dyB x.s x.xs x.e
theorem alJ(xs:List DyV)(hl:xs.length≤2^40)(hx:∀x∈xs,x.xs.length≤2^40):Con Tryz.prog 164 true [.sl xs.length (qg DyV.cs xs)] [] (isA (.v (.bool (xs.all DyV.ok)))):=by
 refine Con.of_w (rs:=[.tmp 2]) Tryz.func164 rfl Tryz.ntmps164 rfl ?_
 simp(disch:=omega)only[go_sem]
 refine qo (as9 74 DyV.ok xs hl (fun x h=>aG1 x.s x.xs x.e (hx x h)) (by simp(disch:=omega)only[go_sem])) ?_
 simp(disch:=omega)only[go_sem]
 exact qz
def JC(n:Int)(l:List DyV):Bool:=(decide (1≤n)&&decide (n≤4))&&(decide ((l.length:Int)=n*n)&&l.all DyV.ok)
theorem aa8(n:Int)(l:List DyV)(hl:l.length≤2^40)(hx:∀x∈l,x.xs.length≤2^40):Con Tryz.prog 73 true [.ag [.v (.int .i64 n),.sl l.length (qg DyV.cs l)]] [] (isA (.v (.bool (JC n l)))):=by
 unfold JC
 cases h1:(decide (1≤n)&&decide (n≤4))
 ·rw[Bool.false_and]
  refine Con.of_w (rs:=[.tmp 2]) Tryz.func73 rfl Tryz.ntmps73 rfl ?_
  simp(disch:=omega)only[go_sem]
  refine qo (jd n 1 4) ?_
  simp(disch:=omega)only[go_sem]
  simp(disch:=omega)only[go_sem,h1]
  exact qz
 ·rw[Bool.true_and]
  have h1':1≤n∧n≤4:=by simpa using h1
  have hq:0≤n*n∧n*n≤16:=⟨Int.mul_nonneg (by omega) (by omega),Int.mul_le_mul h1'.2 h1'.2 (by omega) (by omega)⟩
  cases h2:decide ((l.length:Int)=n*n)
  ·rw[Bool.false_and]
   refine Con.of_w (rs:=[.tmp 2]) Tryz.func73 rfl Tryz.ntmps73 rfl ?_
   simp(disch:=omega)only[go_sem]
   refine qo (jd n 1 4) ?_
   simp(disch:=omega)only[go_sem]
   simp(disch:=omega)only[go_sem,h1,h2]
   exact qz
  ·rw[Bool.true_and]
   refine Con.of_w (rs:=[.tmp 2]) Tryz.func73 rfl Tryz.ntmps73 rfl ?_
   simp(disch:=omega)only[go_sem]
   refine qo (jd n 1 4) ?_
   simp(disch:=omega)only[go_sem]
   simp(disch:=omega)only[go_sem,h1,h2]
   refine qo (alJ l hl hx) ?_
   simp(disch:=omega)only[go_sem]
   exact qz
end Go.Ab
namespace Go.Ab
open Go Go.Proofs
def ExV.dy(x:ExV):DyV:=⟨x.s,lim x.m,x.e⟩
theorem aIG(l:List ExV):qg ExV.cs l=qg DyV.cs (l.map ExV.dy):=by unfold qg;rw[List.map_map];rfl
def ExV.ok(x:ExV):Bool:=dyB x.s (lim x.m) x.e
def aIR(n:Int)(l:List ExV):Bool:=(decide (1≤n)&&decide (n≤4))&&(decide ((l.length:Int)=n*n)&&l.all ExV.ok)
theorem arE(n:Int)(l:List ExV):JC n (l.map ExV.dy)=aIR n l:=by
 unfold JC aIR
 rw[List.length_map,List.all_map];rfl
theorem Yd(n:Int)(l:List ExV)(hl:l.length≤2^40)(hx:∀x∈l,(lim x.m).length≤2^40):Con Tryz.prog 73 true [.ag [.v (.int .i64 n),.sl l.length (qg ExV.cs l)]] [] (isA (.v (.bool (aIR n l)))):=by
 have:=aa8 n (l.map ExV.dy) (by rw[List.length_map];exact hl) (fun x h=>by
  obtain⟨y,hy,rfl⟩:=List.mem_map.1 h
  exact hx y hy)
 rw[arE,←aIG,List.length_map]at this
 exact this
theorem ark{x:ExV}(h:x.ok=true):x.bd (-3000) 4600:=by
 obtain⟨m,e1,h1,h2,h3,_,h4⟩:=Jj h
 have e2:x.m=m:=Qd e1
 subst e2
 exact⟨h4,by omega,by omega⟩
def akQ(F:List SpV)(X:List ExV)(k:Nat):List ExV:=(List.range k).map fun i=>zB [((F.getD i sp0).hi.plus (X.getD i ex0).neg).abs,((X.getD i ex0).plus (F.getD i sp0).lo.neg).abs]
theorem Qv{F:List SpV}{X:List ExV}{k:Nat}:(akQ F X k).length=k:=by simp[akQ]
theorem arm{F:List SpV}{X:List ExV}{k:Nat}:akQ F X (k+1)=akQ F X k++[zB [((F.getD k sp0).hi.plus (X.getD k ex0).neg).abs,((X.getD k ex0).plus (F.getD k sp0).lo.neg).abs]]:=by simp[akQ,List.range_succ]
theorem arl{lo hi:Int}{s:SpV}{x:ExV}(hs:s.bd lo hi)(hx:x.bd lo hi):gbd lo (hi+1) [(s.hi.plus x.neg).abs,(x.plus s.lo.neg).abs]:=by
 intro y hy
 simp only[List.mem_cons,List.not_mem_nil,or_false]at hy
 rcases hy with rfl|rfl
 ·exact ExV.abs_bd (ExV.plus_bd hs.2 (ExV.neg_bd hx))
 ·exact ExV.abs_bd (ExV.plus_bd hx (ExV.neg_bd hs.1))
theorem aOk{lo hi:Int}{F:List SpV}{X:List ExV}{k:Nat}(hF:sbd lo hi F)(hX:gbd lo hi X)(h1:k≤F.length)(h2:k≤X.length):gbd lo (hi+1) (akQ F X k):=by
 intro y hy
 simp only[akQ,List.mem_map,List.mem_range]at hy
 obtain⟨i,hi,rfl⟩:=hy
 exact Zz (arl (jJ hF (by omega)) (qi hX (by omega))) (by simp)
def af5(n:Nat)(F:List SpV)(low:Int):List ExV:=aPg n (F.map aeK) low 0
def jU(n:Nat)(F:List SpV)(low:Int):ExV:=yt n (akQ F (af5 n F low) (n*n)) n
theorem aON{lo hi:Int}{s:SpV}(hs:s.bd lo hi):(aeK s).bd (lo-1) hi:=by
 have:=ExV.shift_bd (k:= -1) (ExV.plus_bd hs.1 hs.2)
 exact this.mono (by omega) (by omega)
theorem aPf{lo hi low mode:Int}{n:Nat}{l:List ExV}(hl:l.length=n*n)(h:gbd lo hi l)(h1:lo≤low)(h2:low≤hi):gbd lo (hi+1) (aPg n l low mode):=
 aT6 fun i j hi hj=>ExV.rnd_bd (qi h (by rw[hl];exact zn hi hj)) h1 h2
set_option maxRecDepth 100000 in
set_option maxHeartbeats 2000000 in
theorem afp(n:Nat)(L:List ExV)(low:Int)(F:List SpV)(hn:n≤4)(hL:L.length=n*n)(hlow: -1000≤low∧low≤1000)(ca:Con Tryz.prog 69 true [.ag [.v (.int .i64 (n)),.sl (L).length (qg ExV.cs (L))],.v (.int .i64 low)] [] (isA (.v (.bool true))))
  (ch:Con Tryz.prog 71 false [.ag [.v (.int .i64 (n)),.sl (L).length (qg ExV.cs (L))],.v (.int .i64 low)] [] (isA (.ag [.v (.int .i64 (n)),.sl (F).length (qg SpV.cs (F))]))) (hF:F.length=n*n) (hFb:sbd (-300000) 300000 F) (hfit:F.all SpV.fit=true):
  Con Tryz.prog 65 false [.ag [.v (.int .i64 (n)),.sl (L).length (qg ExV.cs (L))],.v (.int .i64 low)] []
   (isA (if((af5 n F low).all ExV.fit&&(jU n F low).fit)=true then .tu [.ag [.v (.int .i64 n),.sl (af5 n F low).length (qg ExV.cs ((af5 n F low).map ExV.can))],.ag [.v (.bool ((jU n F low).can).s),.sl (lim ((jU n F low).can).m).length (qh (lim ((jU n F low).can).m)),.v (.int .i64 ((jU n F low).can).e)],.v (.bool true)]else .tu [.ag [.v (.int .i64 0),.sl 0 []],.ag [.v (.bool (false)),.sl (lim (0)).length (qh (lim (0))),.v (.int .i64 (0))],.v (.bool false)])):=by
 refine Con.frzA ?_
 have hq:=yW hn
 have cg:=zC n L (by omega)
 have cv:=as1 n F (by omega) (j9 hFb (by omega) (by omega))
 rw[hfit,if_pos rfl]at cv
 have cm:=aQq n F (by omega) (j9 hFb (by omega) (by omega))
 have hml:(F.map aeK).length=n*n:=by rw[List.length_map,hF]
 have hmb:gbd (-300001) 300000 (F.map aeK):=by
  intro x hx
  obtain⟨s,hs,rfl⟩:=List.mem_map.1 hx
  exact(aON (hFb s hs)).mono (by omega) (by omega)
 have cr:=aGV n (F.map aeK) low 0 hn hml (yh hmb (by omega) (by omega)) (by omega)
 have hXl:(af5 n F low).length=n*n:=by unfold af5 aPg;exact yw
 have hXb:gbd (-300001) 300001 (af5 n F low):=aPf hml hmb (by omega) (by omega)
 change Con _ _ _ _ _ (isA (.ag [.v (.int .i64 (n)),.sl (af5 n F low).length (qg ExV.cs (af5 n F low))]))at cr
 have hOb:gbd (-300001) 300002 (akQ F (af5 n F low) (n*n)):=aOk (j9 hFb (by omega) (by omega)) hXb (by omega) (by omega)
 have cno:=YV n (akQ F (af5 n F low) (n*n)) hn Qv (yh hOb (by omega) (by omega))
 change Con _ _ _ _ _ (isA (.ag [.v (.bool (jU n F low).s),.sl (lim (jU n F low).m).length (qh (lim (jU n F low).m)),.v (.int .i64 (jU n F low).e)]))at cno
 have hFar:(jU n F low).bd (-300001) 300006:=(Yv Qv hOb (by omega) n (Nat.le_refl _)).mono (by omega) (by omega)
 have cw:=JH n (af5 n F low) (jU n F low) (by omega) (yh hXb (by omega) (by omega)) (hFar.mono (by omega) (by omega))
 generalize jU n F low=far at*
 generalize af5 n F low=X at*
 generalize F.map aeK=M at*
 generalize F.map SpV.can=FC at*
 refine Con.of_w (rs:=[.cell 4 25,.cell 5 42,.tmp 6]) Tryz.func65 rfl Tryz.ntmps65 rfl ?_
 simp(disch:=omega)only[go_sem]
 refine qo (ca) ?_
 simp(disch:=omega)only[go_sem]
 refine qb (cg) ?_
 simp(disch:=omega)only[go_sem]
 refine qb (ch) ?_
 simp(disch:=omega)only[go_sem]
 refine qb (cv) ?_
 simp(disch:=omega)only[go_sem]
 refine qb (cm) ?_
 simp(disch:=omega)only[go_sem]
 refine qb (cr) ?_
 simp(disch:=omega)only[go_sem]
 refine qc (fun i:Nat=>[(4,.pt 2 0),(5,.pt 3 0),(7,.pt 4 0),(10,.pt 5 0),(11,.pt 0 0),(41,.sl F.length (qg SpV.cs F)),(42,.v (.int .i64 F.length)),(43,.v (.int .i64 i))])
  (fun i=>[(0,.own 0 [.v (.int .i64 n),.rf 1 0 i]),(1,.own 3 (qg ExV.cs (akQ F X i))),(2,.own 0 [.v (.int .i64 0),.v (.slice none 0 0)]),(3,.own 0 [.v (.bool false),.v (.slice none 0 0),.v (.int .i64 0)]),(4,.own 0 [.v (.int .i64 n),.sl F.length (qg SpV.cs F)]),(5,.own 0 [.v (.int .i64 n),.sl X.length (qg ExV.cs X)])])
  (fun i=>i≤F.length) (fun i=>F.length-i) 0 (by omega)
  ((Le.ghostC 130000000 1 1 3 (zo:=0) (cs:=[.v (.int .i64 n),.v (.slice none 0 0)]) (by simp(disch:=omega)only[go_sem]) rfl (by simp(disch:=omega)only[go_sem])).trans (Le.lst [(0,130000000),(2,60000000),(3,70000000),(4,90000000),(5,120000000)] _ _ rfl (by simp(disch:=omega)only[go_sem]) (by simp(disch:=omega)only[go_sem,show akQ F X 0=[] from rfl,Q3,List.set_cons_succ,List.set_cons_zero]))) ?_
 intro i hi
 simp(disch:=omega)only[go_sem]
 refine qe (fun h1=>?_) (fun h1=>?_)
 ·have hi2:i<F.length:=by omega
  have hci:=y9 hi2
  have hcx:=qk (l:=X) (i:=i) (by omega)
  have hcut:=qV (Qv (F:=F) (X:=X) (k:=i))
  have hs:=arm (F:=F) (X:=X) (k:=i)
  have bs:=jJ hFb hi2
  have bx:=qi hXb (show i<X.length by omega)
  have b2:=arl (SpV.bd.mono bs (by omega) (by omega)) bx
  generalize F.getD i sp0=s at*
  generalize X.getD i ex0=x at*
  simp(disch:=omega)only[go_sem,h1,hci]
  refine⟨by omega,by omega,?_⟩
  refine qm rfl [⟨0,[],[]⟩,⟨1,[],[]⟩,⟨2,[1],[]⟩,⟨3,[1],[]⟩,⟨4,[1,3],[]⟩,⟨5,[1,3],[]⟩,⟨6,[1,3,5],[]⟩,⟨7,[1,3],[]⟩,⟨8,[1,3],[]⟩,⟨11,[1,3,5,8],[]⟩,⟨12,[1,3,5,8],[]⟩,⟨13,[1,3,5,8,12],[]⟩,⟨14,[1,3,5,8],[]⟩,⟨15,[1,3,5,8],[]⟩,⟨16,[1,3,5,8,12,15],[]⟩,⟨17,[1,3,5,8,12,15],[]⟩,⟨9,[1,12,15,17],[]⟩,⟨10,[1,12,15,17],[]⟩,⟨18,[1],[]⟩,⟨19,[1],[]⟩,⟨20,[1],[]⟩,⟨21,[1],[]⟩,⟨22,[1],[]⟩,⟨23,[],[]⟩,⟨24,[],[]⟩,⟨25,[],[]⟩] (by kernel_rfl) ?_
  simp(disch:=omega)only[go_sem,hcx]
  refine⟨by omega,by omega,by omega,by omega,?_⟩
  refine qb (qB s.hi x (bs.2.mono (by omega) (by omega)) (bx.mono (by omega) (by omega))) ?_
  simp(disch:=omega)only[go_sem]
  refine qb (Y1 (s.hi.plus x.neg)) ?_
  simp(disch:=omega)only[go_sem]
  refine qb (qB x s.lo (bx.mono (by omega) (by omega)) (bs.1.mono (by omega) (by omega))) ?_
  simp(disch:=omega)only[go_sem]
  refine qb (Y1 (x.plus s.lo.neg)) ?_
  simp(disch:=omega)only[go_sem]
  generalize (s.hi.plus x.neg).abs=A at*
  generalize (x.plus s.lo.neg).abs=B at*
  have hrow:([.v (.bool A.s),.sl (lim A.m).length (qh (lim A.m)),.v (.int .i64 A.e),.v (.bool B.s),.sl (lim B.m).length (qh (lim B.m)),.v (.int .i64 B.e)]:List AV)=qg ExV.cs [A,B]:=rfl
  rw[hrow]
  refine zk false [700000000] (aaP [A,B] (by simp) (by simp) (yh b2 (by omega) (by omega))) (by simp(disch:=omega)only[go_sem]) (by simp(disch:=omega)only[go_sem]) rfl (qW (z:=3) (cs:=qg ExV.cs [A,B]) (by simp(disch:=omega)only[go_sem]) (by simp(disch:=omega)only[go_sem])) (by intro n hn;exact⟨_,List.mem_cons_self ..,by rw[List.mem_singleton.1 hn];rfl⟩) ?_
  rintro r hs2 bs2 ⟨rfl,rfl,rfl⟩-
  refine⟨by simp[qG],?_⟩
  simp(disch:=omega)only[go_sem,hcut,yR]
  refine⟨⟨by rw[Qv];exact Nat.le_refl _,by omega⟩,qa (i+1) [(1,730000000)] (by show i+1≤_;omega) (by show F.length-(i+1)<F.length-i;omega) rfl (by simp(disch:=omega)only[go_sem];try omega) (by simp(disch:=omega)only[go_sem,hs])⟩
 ·simp(disch:=omega)only[go_sem,h1]
  obtain rfl:i=F.length:=by omega
  have hol:=Qv (F:=F) (X:=X) (k:=n*n)
  rw[hF]
  generalize akQ F X (n*n)=O at*
  rw[hol]at cno
  refine aQj (E:=[(4,.pt 2 0),(5,.pt 3 0),(10,.pt 5 0),(11,.pt 0 0)]) (H:=[(0,.own 0 [.v (.int .i64 n),.sl (n*n) (qg ExV.cs O)]),(2,.own 0 [.v (.int .i64 0),.v (.slice none 0 0)]),(3,.own 0 [.v (.bool false),.v (.slice none 0 0),.v (.int .i64 0)]),(5,.own 0 [.v (.int .i64 n),.sl X.length (qg ExV.cs X)])])
   ((Le.frz 1 (z:=3) (ks:=qg ExV.cs O) (by simp(disch:=omega)only[go_sem]) rfl (by simp(disch:=omega)only[go_sem])).trans (Le.lst [] _ _ rfl (by simp(disch:=omega)only[go_sem]) (by simp(disch:=omega)only[go_sem,qV hol]))) ?_
  refine qm rfl [⟨0,[],[]⟩,⟨1,[0],[]⟩,⟨2,[0],[]⟩,⟨3,[],[]⟩,⟨4,[],[]⟩,⟨5,[],[]⟩,⟨6,[],[]⟩,⟨7,[],[]⟩,⟨8,[],[]⟩,⟨9,[],[]⟩] (by kernel_rfl) ?_
  simp(disch:=omega)only[go_sem]
  refine qb (cno) ?_
  simp(disch:=omega)only[go_sem]
  cases hc:(X.all ExV.fit&&far.fit)
  ·rw[hc,if_neg (by simp)]at cw
   rw[if_neg (by simp)]
   refine qb (cw) ?_
   simp(disch:=omega)only[go_sem]
   exact qq (hp:=by simp(disch:=omega)only[go_sem,qt,List.length_nil,jt])
  ·rw[hc,if_pos rfl]at cw
   rw[if_pos rfl]
   refine qb (cw) ?_
   simp(disch:=omega)only[go_sem]
   exact qq
theorem aaV(n:Nat)(h1:n=1):Con Tryz.prog 69 true [.ag [.v (.int .i64 (n)),.sl ([ex0]).length (qg ExV.cs ([ex0]))],.v (.int .i64 (-10))] [] (isA (.v (.bool true))):=by
 have cm:=Yd n [ex0] (by decide) (by intro x hx;rw[List.mem_singleton.1 hx];show(lim 0).length≤_;rw[qt];decide)
 have hm:aIR n [ex0]=true:=by
  rw[h1];unfold aIR;rw[List.all_cons,List.all_nil,show ex0.ok=true by show dyB false (lim 0) 0=true;rw[qt];decide];decide
 rw[hm]at cm
 have cg:=zC n [ex0] (by decide)
 have cn:=YV n [ex0] (by omega) (by rw[h1];rfl) (by decide+kernel)
 rw[show yt n [ex0] n=ex0 by rw[h1];decide+kernel]at cn
 have cc:=ZE ex0 (exN 64) (by decide+kernel) (by decide+kernel)
 rw[show ex0.cmp (exN 64)= -1 by decide+kernel]at cc
 have q:decide ((-1:Int)≤0)=true:=rfl
 have q1:(decide ((-120:Int)≤ -10)&&decide ((-10:Int)≤0))=true:=rfl
 have cwi:=jd (-10) (-120) 0
 rw[q1]at cwi
 refine Con.of_w (rs:=[.tmp 4]) Tryz.func69 rfl Tryz.ntmps69 rfl ?_
 simp(disch:=omega)only[go_sem]
 refine qo (cm) ?_
 simp(disch:=omega)only[go_sem]
 refine qo (cwi) ?_
 simp(disch:=omega)only[go_sem]
 refine qb (cg) ?_
 simp(disch:=omega)only[go_sem]
 refine qb (cn) ?_
 simp(disch:=omega)only[go_sem]
 refine qb (zG 64 (by omega)) ?_
 simp(disch:=omega)only[go_sem]
 refine qy cc (by simp(disch:=omega)only[go_sem,exN]) ?_
 rintro r hs ⟨rfl,rfl,_⟩
 refine⟨by simp[qG],?_⟩
 simp(disch:=omega)only[go_sem,q]
 exact qz
end Go.Ab
namespace Go.Ab
open Go Go.Proofs
theorem jx(cl:Bool)(xs:List Int)(m:Nat)(hl:xs.length≤2^39)(hx:gd xs)(hv:vl xs=(m:Int)):Con Tryz.prog 284 cl [.sl xs.length (qh xs)] [] (aIO m):=by
 refine Con.of_aw Tryz.func284 rfl Tryz.ntmps284 (by simp) (by simp) (by simp) (W.sound ?_)
 show @W Tryz.prog 24 ⟨_⟩ ⟨fun x σ=>@q9 _ _ _ ⟨_⟩ _ ⟨_⟩ x σ⟩ _ _
 simp(disch:=omega)only[go_sem]
 have hcz:Jm xs=lim m:=by rw[jh hx,hv,Int.toNat_natCast]
 refine qc (fun k:Nat=>[(0,.sl xs.length (qh xs)),(2,.pt 40000000 0),(3,.v (.int .i64 k))]) (fun _=>[(40000000,.own 0 [.v (.slice none 0 0)])]) (fun k=>k≤xs.length∧Jm (xs.take k)=Jm xs) id xs.length ⟨Nat.le_refl _,by simp⟩
  (Le.lst [] _ _ rfl (by simp(disch:=omega)only[go_sem]) (by simp(disch:=omega)only[go_sem])) ?_
 intro k ⟨hk,hc⟩
 have hkx:∀j,j+1=k→xs.take k=xs.take j++[xs.getD j 0]:=fun j hj=>by rw[←hj];exact jO (by omega)
 simp(disch:=omega)only[go_sem]
 refine qe (fun h1=>?_) (fun h1=>?_)
 ·obtain⟨j,rfl⟩:∃j,k=j+1:=⟨k-1,by omega⟩
  have e1:((j+1:Nat):Int)-1=(j:Nat):=by omega
  rw[hkx j rfl]at hc
  simp(disch:=omega)only[go_sem,h1,e1]
  refine⟨by omega,by omega,qe (fun h2=>?_) (fun h2=>?_)⟩
  ·simp(disch:=omega)only[go_sem,h2,e1]
   rw[h2,QG]at hc
   exact qa j [] ⟨by omega,hc⟩ (by show j<j+1;omega) rfl (by simp(disch:=omega)only[go_sem];try omega) (by simp(disch:=omega)only[go_sem])
  ·rw[YR _ h2,←hkx j rfl,hcz]at hc
   have hlm:j+1=(lim m).length:=by rw[←hc,List.length_take];omega
   have e0:(((j+1:Nat):Int)-0).toNat=(lim m).length:=by omega
   rw[hlm]at hc
   simp(disch:=omega)only[go_sem,h2,e0,hc]
   refine⟨by omega,by omega,?_⟩
   refine ql [(0,240000000)] [.own 1 (qh (lim m))] [] [.ag [.rf 0 0 (lim m).length]] rfl (by simp(disch:=omega)only[go_sem]) (by simp(disch:=omega)only[go_sem]) (by simp) (by intro _;simp[zt,AV.pu,AV.pu.puL,Ob.pu,ze]) (.inr ⟨[],rfl,by rw[List.append_nil]⟩)
 ·have hlm:k=(lim m).length:=by
   have:k=0:=by omega
   rw[←hcz,←hc,this];rfl
  subst hlm
  have hc:xs.take (lim m).length=lim m:=by
   have:lim m=[]:=List.length_eq_zero_iff.1 (by omega)
   rw[this];simp
  have e0:(((lim m).length:Int)-0).toNat=(lim m).length:=by omega
  simp(disch:=omega)only[go_sem,h1,e0,hc]
  refine⟨by omega,by omega,?_⟩
  refine ql [(0,240000000)] [.own 1 (qh (lim m))] [] [.ag [.rf 0 0 (lim m).length]] rfl (by simp(disch:=omega)only[go_sem]) (by simp(disch:=omega)only[go_sem]) (by simp) (by intro _;simp[zt,AV.pu,AV.pu.puL,Ob.pu,ze]) (.inr ⟨[],rfl,by rw[List.append_nil]⟩)
theorem YX(cl:Bool)(n:Nat)(hn:n<2^63):Con Tryz.prog 257 cl [.v (.int .i64 n)] [] (aIO n):=by
 refine Con.of_aw Tryz.func257 rfl Tryz.ntmps257 (by simp) (by simp) (by simp) (W.sound ?_)
 show @W Tryz.prog 15 ⟨_⟩ ⟨fun x σ=>@q9 _ _ _ ⟨_⟩ _ ⟨_⟩ x σ⟩ _ _
 simp(disch:=omega)only[go_sem]
 refine qc (fun x:Nat×List Int=>[(0,.v (.int .i64 x.1)),(2,.pt 2 0),(3,.rf 1 0 x.2.length)]) (fun x=>[(1,.own 1 (qh x.2)),(2,.own 0 [.v (.slice none 0 0)])]) (fun x=>x.1<2^63∧x.2++lim x.1=lim n) (fun x=>x.1) (n,[]) ⟨hn,rfl⟩
  ((Le.ghost 3 1 1 (by simp(disch:=omega)only[go_sem]) (by simp(disch:=omega)only[go_sem])).trans (Le.lst [(2,40000000)] _ _ rfl (by simp(disch:=omega)only[go_sem]) (by simp(disch:=omega)only[go_sem]))) ?_
 rintro⟨k,l⟩ ⟨hk,hl⟩
 dsimp only at hk hl ⊢
 have hlen:l.length≤4:=by
  have h1:=congrArg List.length hl
  have h2:=jK (n:=n) (k:=4) |>.2 (by omega)
  rw[List.length_append]at h1;omega
 simp(disch:=omega)only[go_sem]
 refine qe (fun h1=>?_) (fun h1=>?_)
 ·simp(disch:=omega)only[go_sem,h1]
  have hk0:k≠0:=by omega
  refine⟨by omega,qa (k/65536,l++[(k:Int) % 65536]) [(1,120000000)] ⟨by show k/65536<2^63;omega,?_⟩ (by show k/65536<k;omega) rfl (by simp(disch:=omega)only[go_sem,List.length_append];try omega) (by simp(disch:=omega)only[go_sem])⟩
  rw[yf hk0]at hl
  rw[←hl,List.append_assoc];rfl
 ·simp(disch:=omega)only[go_sem,h1]
  have hk0:k=0:=by omega
  subst hk0
  rw[qt,List.append_nil]at hl
  subst hl
  refine ql [(0,1)] [.own 1 (qh (lim n++[]))] [] [.ag [.rf 0 0 (lim n).length]] rfl (by simp(disch:=omega)only[go_sem]) (by simp(disch:=omega)only[go_sem]) (by simp) (by intro _;simp[zt,AV.pu,AV.pu.puL,Ob.pu,ze]) (.inr ⟨[],rfl,rfl⟩)
end Go.Ab
namespace Go.Ab
open Go Go.Proofs
set_option maxRecDepth 100000 in
theorem asZ(cl:Bool)(a b:Nat)(la:(lim a).length≤2000000)(lb:(lim b).length≤2000000):Con Tryz.prog 256 cl [.ag [.sl (lim (a)).length (qh (lim (a)))],.ag [.sl (lim (b)).length (qh (lim (b)))]] [] (aIO (a+b)):=by
 refine Con.of_aw Tryz.func256 rfl Tryz.ntmps256 (by simp) (by simp) (by simp) (W.sound ?_)
 show @W Tryz.prog 61 ⟨_⟩ ⟨fun x σ=>@q9 _ _ _ ⟨_⟩ _ ⟨_⟩ x σ⟩ _ _
 simp(disch:=omega)only[go_sem]
 have hA:=zj a
 have hB:=zj b
 refine qc (fun x:Nat×List Int×Int=>[(2,.pt 3 0),(3,.pt 4 0),(4,.pt 2 0),(5,.rf 1 0 x.2.1.length),(6,.v (.int .i64 x.2.2)),(7,.v (.int .i64 x.1))])
  (fun x=>[(1,.own 1 (qh x.2.1)),(2,.own 0 [.v (.slice none 0 0)]),(3,.own 0 [.sl (lim (a)).length (qh (lim (a)))]),(4,.own 0 [.sl (lim (b)).length (qh (lim (b)))])])
  (fun x=>x.1≤max (lim a).length (lim b).length+1∧x.2.1.length=x.1∧gd x.2.1∧(0≤x.2.2∧x.2.2≤1)∧vl x.2.1+65536^x.1*x.2.2=vl ((lim a).take x.1)+vl ((lim b).take x.1)∧(max (lim a).length (lim b).length<x.1→x.2.2=0))
  (fun x=>2*(max (lim a).length (lim b).length-x.1)+x.2.2.toNat) (0,[],0) ⟨by simp,rfl,Jd,by simp,by simp[vl],fun h=>rfl⟩
  ((Le.ghost 5 1 1 (by simp(disch:=omega)only[go_sem]) (by simp(disch:=omega)only[go_sem])).trans (Le.lst [(2,60000000),(3,40000000),(4,50000000)] _ _ rfl (by simp(disch:=omega)only[go_sem]) (by simp(disch:=omega)only[go_sem]))) ?_
 rintro⟨i,out,cy⟩ ⟨hi,hol,hog,hcy,hov,hcz⟩
 dsimp only at hi hol hog hcy hov hcz ⊢
 have hx:=qQ hA i
 have hy:=qQ hB i
 have hxz:¬(i:Int)<(lim a).length→(lim a).getD i 0=0:=fun h=>by rw[List.getD_eq_getElem?_getD,List.getElem?_eq_none (by omega)];rfl
 have hyz:¬(i:Int)<(lim b).length→(lim b).getD i 0=0:=fun h=>by rw[List.getD_eq_getElem?_getD,List.getElem?_eq_none (by omega)];rfl
 have hstep:∀q:Int,q=cy+(lim a).getD i 0+(lim b).getD i 0→vl (out++[q % 65536])+65536^(i+1)*(q/65536)=vl ((lim a).take (i+1))+vl ((lim b).take (i+1)):=by
  intro q hq
  rw[jz,qX,qX,hol,Int.pow_succ]
  have e3:q % 65536+65536*(q/65536)=q:=Int.emod_add_mul_ediv q 65536
  generalize (65536:Int)^i=Pi at*
  grind
 have key:∀q:Int,q=cy+(lim a).getD i 0+(lim b).getD i 0→(i:Int)<(lim a).length∨(i:Int)<(lim b).length∨0<cy→
   ((i+1≤max (lim a).length (lim b).length+1∧(out++[q % 65536]).length=i+1∧gd (out++[q % 65536])∧(0≤q/65536∧q/65536≤1)∧vl (out++[q % 65536])+65536^(i+1)*(q/65536)=vl ((lim a).take (i+1))+vl ((lim b).take (i+1))∧(max (lim a).length (lim b).length<i+1→q/65536=0))∧
   2*(max (lim a).length (lim b).length-(i+1))+(q/65536).toNat<2*(max (lim a).length (lim b).length-i)+cy.toNat):=by
  intro q hq hc
  have hle:i≤max (lim a).length (lim b).length:=by
   rcases Nat.lt_or_ge (max (lim a).length (lim b).length) i with h|h
   ·have:=hcz h;omega
   ·exact h
  have hbig:max (lim a).length (lim b).length<i+1→q/65536=0:=fun h=>by
   have:=hxz (by omega)
   have:=hyz (by omega)
   omega
  refine⟨⟨by omega,by simp[hol],qM.2 ⟨hog,zZ.2 (by omega)⟩,by omega,hstep q hq,hbig⟩,?_⟩
  by_cases hm:max (lim a).length (lim b).length<i+1
  ·have:=hbig hm;omega
  ·omega
 by_cases h1:(i:Int)<(lim a).length<;>by_cases h2:(i:Int)<(lim b).length
 ·simp(disch:=omega)only[go_sem,h1,h2]
  obtain⟨k1,k2⟩:=key _ rfl (.inl h1)
  refine⟨by omega,by omega,by omega,by omega,by omega,qa (i+1,out++[(cy+(lim a).getD i 0+(lim b).getD i 0) % 65536],(cy+(lim a).getD i 0+(lim b).getD i 0)/65536) [(1,580000000)] k1 k2 rfl (by simp(disch:=omega)only[go_sem,List.length_append];try omega) (by simp(disch:=omega)only[go_sem])⟩
 ·simp(disch:=omega)only[go_sem,h1,h2]
  have e0:cy+(lim a).getD i 0=cy+(lim a).getD i 0+(lim b).getD i 0:=by rw[hyz h2];omega
  obtain⟨k1,k2⟩:=key (cy+(lim a).getD i 0) e0 (.inl h1)
  refine⟨by omega,by omega,by omega,qa (i+1,out++[(cy+(lim a).getD i 0) % 65536],(cy+(lim a).getD i 0)/65536) [(1,580000000)] k1 k2 rfl (by simp(disch:=omega)only[go_sem,List.length_append];try omega) (by simp(disch:=omega)only[go_sem])⟩
 ·simp(disch:=omega)only[go_sem,h1,h2]
  have e0:cy+(lim b).getD i 0=cy+(lim a).getD i 0+(lim b).getD i 0:=by rw[hxz h1];omega
  obtain⟨k1,k2⟩:=key (cy+(lim b).getD i 0) e0 (.inr (.inl h2))
  refine⟨by omega,by omega,by omega,qa (i+1,out++[(cy+(lim b).getD i 0) % 65536],(cy+(lim b).getD i 0)/65536) [(1,580000000)] k1 k2 rfl (by simp(disch:=omega)only[go_sem,List.length_append];try omega) (by simp(disch:=omega)only[go_sem])⟩
 ·by_cases h3:0<cy
  ·simp(disch:=omega)only[go_sem,h1,h2,h3]
   have e0:cy=cy+(lim a).getD i 0+(lim b).getD i 0:=by rw[hxz h1,hyz h2];omega
   obtain⟨k1,k2⟩:=key cy e0 (.inr (.inr h3))
   refine⟨by omega,qa (i+1,out++[cy % 65536],cy/65536) [(1,580000000)] k1 k2 rfl (by simp(disch:=omega)only[go_sem,List.length_append];try omega) (by simp(disch:=omega)only[go_sem])⟩
  ·have hcy0:cy=0:=by omega
   have hov2:vl out=((a+b:Nat):Int):=by
    rw[List.take_of_length_le (by omega),List.take_of_length_le (by omega),zi,zi,hcy0]at hov
    simp at hov;omega
   simp(disch:=omega)only[go_sem,h1,h2,h3]
   refine qy (jx true out (a+b) (by omega) hog hov2) (by simp(disch:=omega)only[go_sem]) ?_
   rintro r hs (⟨h0,rfl,rfl⟩|⟨zs,rfl,rfl⟩)
   ·refine⟨⟨by simp,by simp(disch:=omega)only[go_sem]⟩,?_⟩
    simp(disch:=omega)only[go_sem]
    refine ql [] [] [] [.ag [.v (.slice none 0 0)]] rfl (by simp(disch:=omega)only[go_sem]) (by simp(disch:=omega)only[go_sem]) (by simp) (by intro _;simp[zt,AV.pu,AV.pu.puL,Ob.pu,ze]) (.inl ⟨h0,rfl,rfl⟩)
   ·refine⟨⟨by simp,by simp(disch:=omega)only[go_sem]⟩,?_⟩
    simp(disch:=omega)only[go_sem]
    refine ql [(0,620000000)] [.own 1 (qh (lim (a+b)++zs))] [] [.ag [.rf 0 0 (lim (a+b)).length]] rfl (by simp(disch:=omega)only[go_sem]) (by simp(disch:=omega)only[go_sem]) (by simp) (by intro _;simp[zt,AV.pu,AV.pu.puL,Ob.pu,ze]) (.inr ⟨zs,rfl,rfl⟩)
end Go.Ab
namespace Go.Ab
open Go Go.Proofs
set_option maxRecDepth 100000 in
theorem alu(cl:Bool)(A:List Int)(hA:gd A)(b:Nat)(lA:A.length≤1000000)(lB:(lim b).length≤1000000)(m:Nat)(hm:vl A*(b:Int)=(m:Int)):
  Con Tryz.prog 313 cl [.ag [.sl A.length (qh A)],.ag [.sl (lim (b)).length (qh (lim (b)))]] [] (aIO m):=by
 refine Con.of_aw Tryz.func313 rfl Tryz.ntmps313 (by simp) (by simp) (by simp) (W.sound ?_)
 show @W Tryz.prog 80 ⟨_⟩ ⟨fun x σ=>@q9 _ _ _ ⟨_⟩ _ ⟨_⟩ x σ⟩ _ _
 have hvb:=zi b
 have hB:=zj b
 generalize lim b=B at*
 simp(disch:=omega)only[go_sem]
 refine⟨by omega,?_⟩
 refine qc (fun x:Nat×List Int=>[(2,.pt 0 0),(3,.pt 1 0),(4,.pt 2 0),(5,.rf 3 0 (A.length+B.length)),(6,.v (.int .i64 x.1))])
  (fun x=>[(0,.own 0 [.sl A.length (qh A)]),(1,.own 0 [.sl B.length (qh B)]),(2,.own 0 [.v (.slice none 0 0)]),(3,.own 1 (qh x.2))])
  (fun x=>x.1≤A.length∧x.2.length=A.length+B.length∧gd x.2∧vl x.2=vl (A.take x.1)*vl B∧∀j,x.1+B.length≤j→x.2.getD j 0=0)
  (fun x=>A.length-x.1) (0,List.replicate (A.length+B.length) 0) ⟨by simp,by simp,zw _,by simp[zT,vl],fun j _=>by
   rw[List.getD_eq_getElem?_getD,List.getElem?_replicate];split<;>rfl⟩
  (Le.lst [(0,40000000),(1,50000000),(2,60000000),(3,190000000)] _ _ rfl (by simp(disch:=omega)only[go_sem];try omega) (by simp(disch:=omega)only[go_sem,show((A.length:Int)+(B.length:Int)).toNat=A.length+B.length by omega])) ?_
 rintro⟨i,out⟩ ⟨hi,hol,hog,hov,hoz⟩
 dsimp only at hi hol hog hov hoz ⊢
 simp(disch:=omega)only[go_sem]
 refine qe (fun h1=>?_) (fun h1=>?_)
 ·have hx:=qQ hA i
  simp(disch:=omega)only[go_sem,h1]
  refine qc (fun x:Nat×List Int×Int=>[(2,.pt 0 0),(3,.pt 1 0),(4,.pt 2 0),(5,.rf 3 0 (A.length+B.length)),(6,.v (.int .i64 i)),(7,.v (.int .i64 x.2.2)),(8,.v (.int .i64 x.1))])
   (fun x=>[(0,.own 0 [.sl A.length (qh A)]),(1,.own 0 [.sl B.length (qh B)]),(2,.own 0 [.v (.slice none 0 0)]),(3,.own 1 (qh x.2.1))])
   (fun x=>x.1≤B.length∧x.2.1.length=A.length+B.length∧gd x.2.1∧(0≤x.2.2∧x.2.2<65536)∧vl x.2.1+65536^(i+x.1)*x.2.2=vl out+65536^i*(A.getD i 0*vl (B.take x.1))∧∀j,i+B.length≤j→x.2.1.getD j 0=0)
   (fun x=>B.length-x.1) (0,out,0) ⟨by simp,hol,hog,by simp,by simp[vl],hoz⟩
   (Le.lst [] _ _ rfl (by simp(disch:=omega)only[go_sem];try omega) (by simp(disch:=omega)only[go_sem])) ?_
  rintro⟨j,o2,cy⟩ ⟨hj,hol2,hog2,hcy,hov2,hoz2⟩
  dsimp only at hj hol2 hog2 hcy hov2 hoz2 ⊢
  simp(disch:=omega)only[go_sem]
  refine qe (fun h2=>?_) (fun h2=>?_)
  ·have hy:=qQ hB j
   have ho:=qQ hog2 (i+j)
   have hxy:=arz hx hy
   have e1:((i:Int)+(j:Int)).toNat=i+j:=by omega
   simp(disch:=omega)only[go_sem,h2]
   refine qm rfl [⟨0,[],[]⟩,⟨1,[],[]⟩,⟨2,[],[]⟩,⟨3,[],[]⟩,⟨4,[],[]⟩,⟨5,[],[]⟩,⟨6,[5],[]⟩,⟨7,[5],[]⟩,⟨8,[5,7],[]⟩,⟨9,[5],[]⟩,⟨10,[5],[]⟩,⟨11,[5,7,10],[]⟩,⟨12,[5,7,10],[]⟩,⟨13,[5,7,10,12],[]⟩,⟨14,[5,7,10],[]⟩,⟨15,[5,7,10],[]⟩,⟨16,[5],[]⟩,⟨17,[],[]⟩,⟨18,[5,7,10,12,15],[]⟩,⟨19,[],[]⟩,⟨20,[],[]⟩] (by kernel_rfl) ?_
   simp(disch:=omega)only[go_sem,e1]
   generalize hq:o2.getD (i+j) 0+A.getD i 0*B.getD j 0+cy=q
   refine⟨by omega,by omega,by omega,by omega,by omega,by omega,by omega,by omega,qa (j+1,o2.set (i+j) (q % 65536),q/65536) [] ⟨by show j+1≤_;omega,by simp[hol2],y4 hog2 (by omega),by show 0≤q/65536∧q/65536<65536;omega,?_,fun k hk=>?_⟩
    (by show B.length-(j+1)<B.length-j;omega) rfl (by simp(disch:=omega)only[go_sem];try omega) (by simp(disch:=omega)only[go_sem])⟩
   ·show vl (o2.set (i+j) (q % 65536))+65536^(i+(j+1))*(q/65536)=vl out+65536^i*(A.getD i 0*vl (B.take (j+1)))
    rw[Q9 (by omega),jj (by omega),←Nat.add_assoc,Int.pow_succ]
    have e2:(65536:Int)^(i+j)=65536^i*65536^j:=Int.pow_add _ _ _
    have e3:q % 65536+65536*(q/65536)=q:=Int.emod_add_mul_ediv q 65536
    rw[e2]at hov2 ⊢
    generalize (65536:Int)^i=Pi at*
    generalize (65536:Int)^j=Pj at*
    grind
   ·show(o2.set (i+j) (q % 65536)).getD k 0=0
    rw[List.getD_eq_getElem?_getD,List.getElem?_set_ne (by omega),←List.getD_eq_getElem?_getD]
    exact hoz2 k hk
  ·simp(disch:=omega)only[go_sem,h2]
   have e1:((i:Int)+(B.length:Int)).toNat=i+B.length:=by omega
   have hjB:j=B.length:=by omega
   subst hjB
   rw[List.take_length]at hov2
   have hz:=hoz2 (i+B.length) (Nat.le_refl _)
   refine qm rfl [⟨0,[],[]⟩,⟨1,[],[]⟩,⟨2,[],[]⟩,⟨3,[],[]⟩,⟨4,[],[]⟩,⟨5,[],[]⟩,⟨6,[3],[]⟩,⟨7,[3],[]⟩,⟨8,[3],[]⟩,⟨9,[3],[]⟩,⟨10,[3],[]⟩,⟨11,[3],[]⟩,⟨12,[3],[]⟩,⟨13,[3],[]⟩,⟨14,[3,9,13],[]⟩,⟨15,[3],[]⟩,⟨16,[],[]⟩,⟨17,[],[]⟩] (by kernel_rfl) ?_
   simp(disch:=omega)only[go_sem,e1,hz]
   have e0:(0:Int)+cy=cy:=by omega
   refine⟨by omega,by omega,by omega,by omega,qa (i+1,o2.set (i+B.length) cy) [] ⟨by show i+1≤_;omega,by simp[hol2],y4 hog2 hcy,?_,fun k hk=>?_⟩ (by show A.length-(i+1)<A.length-i;omega) rfl (by simp(disch:=omega)only[go_sem];try omega) (by simp(disch:=omega)only[go_sem,e0])⟩
   ·show vl (o2.set (i+B.length) cy)=vl (A.take (i+1))*vl B
    rw[Q9 (by omega),hz,jj (by omega)]
    generalize (65536:Int)^i=Pi at*
    grind
   ·show(o2.set (i+B.length) cy).getD k 0=0
    rw[List.getD_eq_getElem?_getD,List.getElem?_set_ne (by show i+B.length≠k;omega),←List.getD_eq_getElem?_getD]
    exact hoz2 k (by omega)
 ·simp(disch:=omega)only[go_sem,h1]
  have hiA:i=A.length:=by omega
  subst hiA
  rw[List.take_length,hvb,hm]at hov
  rw[←hol]
  refine qy (jx true (out) (m) (by omega) (hog) (hov)) (by simp(disch:=omega)only[go_sem]) ?_
  rintro r hs (⟨h0,rfl,rfl⟩|⟨zs,rfl,rfl⟩)
  ·refine⟨⟨by simp,by simp(disch:=omega)only[go_sem]⟩,?_⟩
   simp(disch:=omega)only[go_sem]
   refine ql [] [] [] [.ag [.v (.slice none 0 0)]] rfl (by simp(disch:=omega)only[go_sem]) (by simp(disch:=omega)only[go_sem]) (by simp) (by intro _;simp[zt,AV.pu,AV.pu.puL,Ob.pu,ze]) (.inl ⟨h0,rfl,rfl⟩)
  ·refine⟨⟨by simp,by simp(disch:=omega)only[go_sem]⟩,?_⟩
   simp(disch:=omega)only[go_sem]
   refine ql [(0,810000000)] [.own 1 (qh (lim (m)++zs))] [] [.ag [.rf 0 0 (lim (m)).length]] rfl (by simp(disch:=omega)only[go_sem]) (by simp(disch:=omega)only[go_sem]) (by simp) (by intro _;simp[zt,AV.pu,AV.pu.puL,Ob.pu,ze]) (.inr ⟨zs,rfl,rfl⟩)
end Go.Ab
namespace Go.Ab
open Go Go.Proofs
def aTN(m:Nat)(r0:Int):AV→List Ob→List Ob→Prop:=fun r hs bs=>
 (m=0∧r=.tu [.ag [.v (.slice none 0 0)],.v (.int .i64 r0)]∧hs=[])∨∃zs,r=.tu [.ag [.rf 0 0 (lim m).length],.v (.int .i64 r0)]∧hs=[.own 1 (qh (lim m++zs))]
theorem Con.natF2{P:Program}{f:FuncId}{args:List AV}{m:Nat}{r0:Int}(h:Con P f false args [] (aTN m r0)):Con P f false args [] (isA (.tu [.ag [.sl (lim (m)).length (qh (lim (m)))],.v (.int .i64 r0)])):=
 Con.frzA <| h.mono fun r hs bs h=>by
  rcases h with⟨rfl,rfl,rfl⟩|⟨zs,rfl,rfl⟩
  ·show qN _ 6 _=_
   rw[qt];rfl
  ·show qN _ 6 _=_
   rw[Yp,List.map_cons,List.map_cons,List.map_nil,aex,List.map_cons,List.map_nil,j8 (k:=2) (l:=lim m) (zs:=zs) zg rfl]
   rfl
theorem aaS(cl:Bool)(A:List Int)(d:Nat)(hA:gd A)(lA:A.length≤1000000)(hd:0<d)(hd2:d<65536)(m:Nat)(hm:vl A/(d:Int)=(m:Int)):
  Con Tryz.prog 300 cl [.ag [.sl A.length (qh A)],.v (.int .i64 d)] [] (aTN m (vl A % d)):=by
 refine Con.of_aw Tryz.func300 rfl Tryz.ntmps300 (by simp) (by simp) (by simp) (W.sound ?_)
 show @W Tryz.prog 42 ⟨_⟩ ⟨fun x σ=>@q9 _ _ _ ⟨_⟩ _ ⟨_⟩ x σ⟩ _ _
 simp(disch:=omega)only[go_sem]
 refine⟨by omega,?_⟩
 refine qc (fun x:Nat×List Int×Int=>[(1,.v (.int .i64 d)),(2,.pt 0 0),(4,.pt 1 0),(6,.rf 2 0 A.length),(7,.v (.int .i64 x.2.2)),(8,.v (.int .i64 ((x.1:Int)-1)))])
  (fun x=>[(0,.own 0 [.sl A.length (qh A)]),(1,.own 0 [.v (.slice none 0 0)]),(2,.own 1 (qh x.2.1))])
  (fun x=>x.1≤A.length∧x.2.1.length=A.length∧gd x.2.1∧x.2.2=vl (A.drop x.1) % d∧vl (x.2.1.drop x.1)=vl (A.drop x.1)/d)
  (fun x=>x.1) (A.length,List.replicate A.length 0,0) ⟨Nat.le_refl _,by simp,zw _,by simp[vl],by simp[vl]⟩
  (Le.lst [(0,40000000),(1,60000000),(2,150000000)] _ _ rfl (by simp(disch:=omega)only[go_sem,List.length_replicate];try omega) (by simp(disch:=omega)only[go_sem])) ?_
 rintro⟨k,out,rest⟩ ⟨hk,hol,hog,hr,hov⟩
 dsimp only at hk hol hog hr hov ⊢
 have hr0:0≤rest∧rest<d:=by rw[hr];exact⟨Int.emod_nonneg _ (by omega),Int.emod_lt_of_pos _ (by omega)⟩
 simp(disch:=omega)only[go_sem]
 refine qe (fun h1=>?_) (fun h1=>?_)
 ·obtain⟨i,rfl⟩:∃i,k=i+1:=⟨k-1,by omega⟩
  have ei:((i+1:Nat):Int)-1=(i:Nat):=by omega
  have hx:=qQ hA i
  have hq6:0≤(rest*65536+A.getD i 0)/d∧(rest*65536+A.getD i 0)/d<65536:=by
   refine⟨Int.ediv_nonneg (by omega) (by omega),Int.ediv_lt_of_lt_mul (by omega) ?_⟩
   have:rest+1≤(d:Int):=by omega
   have:=Int.mul_le_mul_of_nonneg_left this (show(0:Int)≤65536 by omega)
   omega
  simp(disch:=omega)only[go_sem,h1,ei]
  generalize hq:rest*65536+A.getD i 0=q at*
  refine⟨by omega,by omega,by omega,by omega,by omega,by omega,qa (i,out.set i (q/d),q % d) [] ⟨by show i≤_;omega,by simp[hol],y4 hog hq6,?_,?_⟩ (by show i<i+1;omega) rfl (by simp(disch:=omega)only[go_sem];try omega) (by simp(disch:=omega)only[go_sem])⟩
  ·show q % d=vl (A.drop i) % d
   rw[zJ (l:=A) (i:=i) (by omega),←hq,hr]
   have h3:=Int.emod_add_mul_ediv (vl (A.drop (i+1))) d
   rw[show A.getD i 0+65536*vl (A.drop (i+1))=vl (A.drop (i+1)) % d*65536+A.getD i 0+d*(65536*(vl (A.drop (i+1))/d)) by grind,Int.add_mul_emod_self_left]
  ·show vl ((out.set i (q/d)).drop i)=vl (A.drop i)/d
   rw[drop_set (by omega),vl,hov,zJ (l:=A) (i:=i) (by omega),←hq,hr]
   have h3:=Int.emod_add_mul_ediv (vl (A.drop (i+1))) d
   rw[show A.getD i 0+65536*vl (A.drop (i+1))=vl (A.drop (i+1)) % d*65536+A.getD i 0+d*(65536*(vl (A.drop (i+1))/d)) by grind,Int.add_mul_ediv_left _ _ (by omega)]
 ·simp(disch:=omega)only[go_sem,h1]
  have:k=0:=by omega
  subst this
  rw[List.drop_zero,List.drop_zero,hm]at hov
  rw[List.drop_zero]at hr
  rw[←hol]
  refine qy (jx true out m (by omega) hog hov) (by simp(disch:=omega)only[go_sem]) ?_
  rintro r hs (⟨h0,rfl,rfl⟩|⟨zs,rfl,rfl⟩)
  ·refine⟨⟨by simp,by simp(disch:=omega)only[go_sem]⟩,?_⟩
   simp(disch:=omega)only[go_sem]
   rw[hr]
   refine ql [] [] [] [.ag [.v (.slice none 0 0)],.v (.int .i64 (vl A % d))] rfl (by simp(disch:=omega)only[go_sem]) (by simp(disch:=omega)only[go_sem]) (by simp) (by intro _;simp[zt,AV.pu,AV.pu.puL,Ob.pu,ze]) (.inl ⟨h0,rfl,rfl⟩)
  ·refine⟨⟨by simp,by simp(disch:=omega)only[go_sem]⟩,?_⟩
   simp(disch:=omega)only[go_sem]
   rw[hr]
   refine ql [(0,420000000)] [.own 1 (qh (lim m++zs))] [] [.ag [.rf 0 0 (lim m).length],.v (.int .i64 (vl A % d))] rfl (by simp(disch:=omega)only[go_sem]) (by simp(disch:=omega)only[go_sem]) (by simp) (by intro _;simp[zt,AV.pu,AV.pu.puL,Ob.pu,ze]) (.inr ⟨zs,rfl,rfl⟩)
/-! ### Shifts-/
theorem aqX{k:Nat}(hk:k<16):IntKind.i64.wrap (1*2^(min ((k:Int)).toNat 64))=((2^k:Nat):Int):=by
 have e:min ((k:Int)).toNat 64=k:=by omega
 rw[e,Int.one_mul]
 have h:=yr k hk
 rw[al6 (by omega) (by omega),Int.natCast_pow];rfl
theorem asY(cl:Bool)(a k:Nat)(la:(lim a).length≤400000)(hk:k≤5000000):Con Tryz.prog 276 cl [.ag [.sl (lim (a)).length (qh (lim (a)))],.v (.int .i64 k)] [] (aIO (a*2^k)):=by
 refine Con.of_aw Tryz.func276 rfl Tryz.ntmps276 (by simp) (by simp) (by simp) (W.sound ?_)
 show @W Tryz.prog 22 ⟨_⟩ ⟨fun x σ=>@q9 _ _ _ ⟨_⟩ _ ⟨_⟩ x σ⟩ _ _
 have hz:((lim a).length:Int)=0→a=0:=fun h=>qO.1 (List.length_eq_zero_iff.1 (by omega))
 have hvA:=zi a
 have gA:=zj a
 generalize hLA:lim a=A at*
 simp(disch:=omega)only[go_sem]
 refine qe (fun h1=>?_) (fun h1=>?_)
 ·simp(disch:=omega)only[go_sem,h1]
  have h0:=hz h1
  subst h0
  refine ql [] [] [] [.ag [.v (.slice none 0 0)]] rfl (by simp(disch:=omega)only[go_sem]) (by simp(disch:=omega)only[go_sem]) (by simp) (by intro _;simp[zt,AV.pu,AV.pu.puL,Ob.pu,ze]) (.inl ⟨by simp,rfl,rfl⟩)
 ·simp(disch:=omega)only[go_sem,h1]
  refine qm rfl [⟨0,[],[]⟩,⟨1,[],[]⟩,⟨3,[],[]⟩,⟨4,[],[]⟩,⟨7,[4],[]⟩,⟨8,[4],[]⟩,⟨9,[4],[]⟩,⟨2,[4],[]⟩,⟨5,[],[]⟩,⟨6,[],[]⟩,⟨10,[],[]⟩,⟨11,[],[]⟩,⟨12,[],[]⟩] (by kernel_rfl) ?_
  have e16:((k:Int)/16).toNat=k/16:=by omega
  have e17:(k:Int) % 16=((k % 16:Nat):Int):=by omega
  have es:IntKind.i64.wrap (1*2^(min ((k:Int) % 16).toNat 64))=((2^(k % 16):Nat):Int):=by rw[e17];exact aqX (by omega)
  have hp15:2^(k % 16)≤2^15:=Nat.pow_le_pow_right (by omega) (by omega)
  have ecut:(List.replicate (k/16) (0:Int)).take (k/16)=List.replicate (k/16) 0:=List.take_of_length_le (by simp)
  simp(disch:=omega)only[go_sem,e16,ecut,es]
  refine⟨by omega,by omega,by simp;omega,?_⟩
  refine qb ((YX false (2^(k % 16)) (by omega)).natF) ?_
  simp(disch:=omega)only[go_sem]
  have hvA2:vl (List.replicate (k/16) 0++A)*((2^(k % 16):Nat):Int)=((a*2^k:Nat):Int):=by
   rw[Qk,zT,hvA,List.length_replicate]
   have h2:a*2^k=65536^(k/16)*a*2^(k % 16):=by
    have:2^k=65536^(k/16)*2^(k % 16):=by rw[ZX,←Nat.pow_add,Nat.div_add_mod]
    rw[this];grind
   rw[h2,Int.natCast_mul,Int.natCast_mul,Int.natCast_pow]
   simp
  have gA2:gd (List.replicate (k/16) 0++A):=qM.2 ⟨zw _,gA⟩
  have lA2:(List.replicate (k/16) (0:Int)++A).length=k/16+A.length:=by simp
  have et:(List.replicate (k/16) (0:Int)++A).take (k/16+A.length)=List.replicate (k/16) 0++A:=List.take_of_length_le (by simp)
  have l2s:(lim (2^(k % 16))).length≤1000000:=by
   have:=qI (m:=2^(k % 16)) (B:=16) (zD.2 (by omega));omega
  refine qy (alu true (List.replicate (k/16) 0++A) gA2 (2^(k % 16)) (by omega) l2s (a*2^k) hvA2) (by simp(disch:=omega)only[go_sem,lA2,et]) ?_
  rintro r hs (⟨h0,rfl,rfl⟩|⟨zs,rfl,rfl⟩)
  ·refine⟨⟨by simp,by simp(disch:=omega)only[go_sem]⟩,?_⟩
   simp(disch:=omega)only[go_sem]
   refine ql [] [] [] [.ag [.v (.slice none 0 0)]] rfl (by simp(disch:=omega)only[go_sem]) (by simp(disch:=omega)only[go_sem]) (by simp) (by intro _;simp[zt,AV.pu,AV.pu.puL,Ob.pu,ze]) (.inl ⟨h0,rfl,rfl⟩)
  ·refine⟨⟨by simp,by simp(disch:=omega)only[go_sem]⟩,?_⟩
   simp(disch:=omega)only[go_sem]
   refine ql [(0,230000000)] [.own 1 (qh (lim (a*2^k)++zs))] [] [.ag [.rf 0 0 (lim (a*2^k)).length]] rfl (by simp(disch:=omega)only[go_sem]) (by simp(disch:=omega)only[go_sem]) (by simp) (by intro _;simp[zt,AV.pu,AV.pu.puL,Ob.pu,ze]) (.inr ⟨zs,rfl,rfl⟩)
end Go.Ab
namespace Go.Ab
open Go Go.Proofs
theorem asX(a k:Nat)(la:(lim a).length≤1000000)(hk:k≤100000000):Con Tryz.prog 255 false [.ag [.sl (lim (a)).length (qh (lim (a)))],.v (.int .i64 k)] [] (isA (.ag [.sl (lim (a/2^k)).length (qh (lim (a/2^k)))])):=by
 refine Con.frzA ?_
 refine Con.of_aw Tryz.func255 rfl Tryz.ntmps255 (by simp) (by simp) (by simp) (W.sound ?_)
 show @W Tryz.prog 28 ⟨_⟩ ⟨fun x σ=>@q9 _ _ _ ⟨_⟩ _ ⟨_⟩ x σ⟩ _ _
 simp(disch:=omega)only[go_sem]
 refine qe (fun h1=>?_) (fun h1=>?_)
 ·simp(disch:=omega)only[go_sem,h1]
  have h0:a/2^k=0:=by
   refine Nat.div_eq_of_lt (Nat.lt_of_lt_of_le (Z4 a) ?_)
   rw[ZX];exact Nat.pow_le_pow_right (by omega) (by omega)
  rw[h0,qt]
  exact qq
 ·simp(disch:=omega)only[go_sem,h1]
  refine qm rfl [⟨0,[],[]⟩,⟨1,[],[]⟩,⟨2,[1],[]⟩,⟨3,[1],[]⟩,⟨4,[],[]⟩,⟨5,[],[]⟩,⟨6,[1,4],[]⟩,⟨7,[1,4],[]⟩,⟨8,[1,4],[]⟩,⟨13,[1,4],[]⟩,⟨9,[],[70000000]⟩,⟨10,[],[70000000]⟩,⟨11,[],[70000000]⟩,⟨12,[],[70000000]⟩,⟨14,[],[]⟩,⟨15,[],[]⟩] (by kernel_rfl) ?_
  have e16:((k:Int)/16).toNat=k/16:=by omega
  have e17:(k:Int) % 16=((k % 16:Nat):Int):=by omega
  have e18:(((lim a).length:Int)-(k:Int)/16).toNat=((lim a).drop (k/16)).length:=by simp;omega
  have es:IntKind.i64.wrap (1*2^(min ((k:Int) % 16).toNat 64))=((2^(k % 16):Nat):Int):=by rw[e17];exact aqX (by omega)
  have hp15:2^(k % 16)≤2^15:=Nat.pow_le_pow_right (by omega) (by omega)
  have hp0:0<2^(k % 16):=Nat.pow_pos (by omega)
  have hvD:=afD (zj a) (i:=k/16) (by omega)
  have gD:=yx (zj a) (k/16)
  have hlD:((lim a).drop (k/16)).length≤1000000:=by simp;omega
  have hm:vl ((lim a).drop (k/16))/((2^(k % 16):Nat):Int)=((a/2^k:Nat):Int):=by
   rw[←hvD,zi]
   have:a/2^k=a/65536^(k/16)/2^(k % 16):=by rw[Nat.div_div_eq_div_mul,ZX,←Nat.pow_add,Nat.div_add_mod]
   rw[this,Int.natCast_ediv,Int.natCast_ediv,Int.natCast_pow 65536];rfl
  have et:((lim a).drop (k/16)).take ((lim a).drop (k/16)).length=(lim a).drop (k/16):=List.take_length
  simp(disch:=omega)only[go_sem,e16,e18,et,es]
  generalize (lim a).drop (k/16)=D at*
  refine⟨by omega,by omega,?_⟩
  refine qb ((aaS false D (2^(k % 16)) gD hlD hp0 (by omega) (a/2^k) hm).natF2) ?_
  simp(disch:=omega)only[go_sem]
  exact qq
theorem aRA(a:Nat)(la:(lim a).length≤2^40):Con Tryz.prog 289 true [.ag [.sl (lim (a)).length (qh (lim (a)))]] [] (isA (.v (.int .i64 (bl a)))):=by
 refine Con.of_aw Tryz.func289 rfl Tryz.ntmps289 (by simp) (by simp) (by simp) (W.sound ?_)
 show @W Tryz.prog 29 ⟨_⟩ ⟨fun x σ=>@q9 _ _ _ ⟨_⟩ _ ⟨_⟩ x σ⟩ _ _
 simp(disch:=omega)only[go_sem]
 refine qe (fun h1=>?_) (fun h1=>?_)
 ·simp(disch:=omega)only[go_sem,h1]
  have:a=0:=qO.1 (List.length_eq_zero_iff.1 (by omega))
  subst this
  rw[Qi]
  exact qz
 ·have hm:a≠0:=fun e=>by rw[e,qt]at h1;simp at h1
  have e2:(((lim a).length:Int)-1).toNat=(lim a).length-1:=by omega
  have ht:=Z6 hm
  have hb:=atu hm
  have eq:(lim a).getD ((lim a).length-1) 0=((a/65536^((lim a).length-1):Nat):Int):=by rw[zX,Nat.mod_eq_of_lt ht.2]
  generalize a/65536^((lim a).length-1)=q at*
  simp(disch:=omega)only[go_sem,h1,e2,eq]
  refine⟨by omega,by omega,?_⟩
  refine qc (fun x:Nat×Nat=>[(3,.v (.int .i64 x.1)),(4,.v (.int .i64 x.2))]) (fun _=>[]) (fun x=>x.1+bl x.2=bl a∧x.2<65536∧x.1≤2^45) (fun x=>x.2) (16*((lim a).length-1),q) ⟨hb.symm,ht.2,by show 16*((lim a).length-1)≤2^45;omega⟩ (Le.lst [] _ _ rfl (by simp(disch:=omega)only[go_sem];try omega) (by simp(disch:=omega)only[go_sem])) ?_
  rintro⟨n,x⟩ ⟨hn,hx,hn2⟩
  dsimp only at hn hx hn2 ⊢
  simp(disch:=omega)only[go_sem]
  refine qe (fun h2=>?_) (fun h2=>?_)
  ·simp(disch:=omega)only[go_sem,h2]
   have hd:=aJd (x:=x) (by omega)
   have hp:=zD.2 (show x<2^16 by omega)
   refine qa (n+1,x/2) [] ⟨by show n+1+bl (x/2)=bl a;omega,by show x/2<65536;omega,?_⟩ (by show x/2<x;omega) rfl (by simp(disch:=omega)only[go_sem];try omega) (by simp(disch:=omega)only[go_sem])
   show n+1≤2^45
   have:=abf (m:=a)
   omega
  ·simp(disch:=omega)only[go_sem,h2]
   have:x=0:=by omega
   subst this
   rw[Qi]at hn
   refine qC (by simp(disch:=omega)only[go_sem]) (by simp(disch:=omega)only[go_sem]) ⟨?_,rfl,rfl⟩
   simp[zt];omega
theorem aaT(m:Nat)(i:Int)(hl:(lim m).length≤2^40)(hi:0≤i)(hi2:i<2^62):Con Tryz.prog 190 true [.ag [.sl (lim (m)).length (qh (lim (m)))],.v (.int .i64 i)] [] (isA (.v (.int .i64 ((m/2^i.toNat % 2:Nat):Int)))):=by
 refine Con.of_w (rs:=[.tmp 4]) Tryz.func190 rfl Tryz.ntmps190 rfl ?_
 obtain⟨k,rfl⟩:=Int.eq_ofNat_of_zero_le hi
 rw[Int.toNat_natCast]
 have h0:¬((k:Int)<0):=by omega
 have e16:((k:Int)/16).toNat=k/16:=by omega
 have em:min ((k:Int) % 16).toNat 64=k % 16:=by omega
 have hb:=atv m k
 simp(disch:=omega)only[go_sem,h0]
 refine qe (fun h1=>?_) (fun h1=>?_)
 ·simp(disch:=omega)only[go_sem,h1]
  have:m/2^k % 2=0:=by
   rw[←hb]
   have h2:=zX m (k/16)
   rw[List.getD_eq_getElem?_getD,List.getElem?_eq_none (by omega)]at h2
   have h3:m/65536^(k/16) % 65536=0:=by simp only[Option.getD_none]at h2;omega
   rw[h3];simp
  rw[this]
  exact qz
 ·have hx:=qQ (zj m) (k/16)
  have hp:(0:Int)<2^(k % 16):=Int.pow_pos (by omega)
  have efd:∀x:Int,x.fdiv (2^(k % 16))=x/2^(k % 16):=fun x=>Int.fdiv_eq_ediv_of_nonneg _ (Int.le_of_lt hp)
  have hq:0≤(lim m).getD (k/16) 0/2^(k % 16)∧(lim m).getD (k/16) 0/2^(k % 16)<65536:=by
   refine⟨Int.ediv_nonneg hx.1 (Int.le_of_lt hp),Int.lt_of_le_of_lt (Int.ediv_le_self _ hx.1) hx.2⟩
  have hr:(lim m).getD (k/16) 0/2^(k % 16) % 2=((m/2^k % 2:Nat):Int):=by
   rw[←hb,zX]
   generalize m/65536^(k/16) % 65536=x
   rw[Int.natCast_emod,Int.natCast_ediv,Int.natCast_pow];rfl
  simp(disch:=omega)only[go_sem,h1,e16,em,efd,hr]
  refine⟨by omega,by omega,by omega,?_⟩
  exact qz
theorem at4{m i:Nat}(hz:∀j,j<i→m/2^j % 2=0)(h1:m/2^i % 2=1):tz m=i:=by
 have key:∀k,k≤i→2^k*(m/2^k)=m:=by
  intro k
  induction k with
  |zero=>intro _;simp
  |succ k ih=>
   intro hk
   have h2:=ih (by omega)
   have h3:=hz k (by omega)
   have h4:m/2^(k+1)=m/2^k/2:=by rw[Nat.pow_succ,Nat.div_div_eq_div_mul]
   rw[h4,Nat.pow_succ,Nat.mul_assoc,show 2*(m/2^k/2)=m/2^k by omega];exact h2
 refine QP (a:=m/2^i/2) ?_
 have:=key i (Nat.le_refl _)
 rw[show 2*(m/2^i/2)+1=m/2^i by omega];exact this.symm
theorem afc(m:Nat)(hl:(lim m).length≤2^40):Con Tryz.prog 254 true [.ag [.sl (lim (m)).length (qh (lim (m)))]] [] (isA (.v (.int .i64 (tz m)))):=by
 refine Con.of_w (rs:=[.tmp 2]) Tryz.func254 rfl Tryz.ntmps254 rfl ?_
 simp(disch:=omega)only[go_sem]
 refine qc (fun i:Nat=>[(1,.pt 0 0),(3,.v (.int .i64 i))]) (fun _=>[(0,.own 0 [.sl (lim (m)).length (qh (lim (m)))])]) (fun i=>i≤16*(lim m).length∧∀j,j<i→m/2^j % 2=0) (fun i=>16*(lim m).length-i) 0 ⟨by omega,fun j hj=>by omega⟩ (Le.lst [(0,30000000)] _ _ rfl (by simp(disch:=omega)only[go_sem];try omega) (by simp(disch:=omega)only[go_sem])) ?_
 rintro i ⟨hi,hz⟩
 simp(disch:=omega)only[go_sem]
 refine qe (fun h1=>?_) (fun h1=>?_)
 ·simp(disch:=omega)only[go_sem,h1]
  refine qo (aaT m i hl (by omega) (by omega)) ?_
  simp(disch:=omega)only[go_sem]
  refine qe (fun h2=>?_) (fun h2=>?_)
  ·simp(disch:=omega)only[go_sem,h2]
   have:=at4 hz (by omega)
   rw[this]
   exact qz
  ·simp(disch:=omega)only[go_sem,h2]
   refine qa (i+1) [] ⟨by omega,fun j hj=>?_⟩ (by show 16*(lim m).length-(i+1)<16*(lim m).length-i;omega) rfl (by simp(disch:=omega)only[go_sem];try omega) (by simp(disch:=omega)only[go_sem])
   rcases(by omega:j<i∨j=i)with h|h
   ·exact hz j h
   ·subst h;omega
 ·simp(disch:=omega)only[go_sem,h1]
  have hm:m=0:=by
   have h3:=abf (m:=m)
   rcases Nat.eq_zero_or_pos m with h|h
   ·exact h
   ·have h4:=yF (n:=m) (by omega)
    have h5:=(Qw (n:=m) (by omega)).1
    have:=hz (tz m) (by omega)
    omega
  subst hm
  rw[al9]
  exact qz
end Go.Ab
namespace Go.Ab
open Go Go.Proofs
theorem aTU(m:Nat):decide ((0:Int)<((lim m).length:Int))=decide (m≠0):=by
 rw[decide_eq_decide]
 exact⟨fun h e=>by rw[e,qt]at h;simp at h,fun h=>by have:=y3 h;omega⟩
theorem Jp(m:Nat)(hl:(lim m).length≤2^39):Con Tryz.prog 284 false [.sl (lim (m)).length (qh (lim (m)))] [] (isA (.ag [.sl (lim (m)).length (qh (lim (m)))])):=(jx false (lim m) m hl (zj m) (zi m)).natF
theorem Jo(n:Nat)(hn:n<2^63):Con Tryz.prog 257 false [.v (.int .i64 n)] [] (isA (.ag [.sl (lim (n)).length (qh (lim (n)))])):=(YX false n hn).natF
theorem Yc(a b:Nat)(la:(lim a).length≤2000000)(lb:(lim b).length≤2000000):Con Tryz.prog 256 false [.ag [.sl (lim (a)).length (qh (lim (a)))],.ag [.sl (lim (b)).length (qh (lim (b)))]] [] (isA (.ag [.sl (lim (a+b)).length (qh (lim (a+b)))])):=(asZ false a b la lb).natF
theorem Ya(a k:Nat)(la:(lim a).length≤400000)(hk:k≤5000000):Con Tryz.prog 276 false [.ag [.sl (lim (a)).length (qh (lim (a)))],.v (.int .i64 k)] [] (isA (.ag [.sl (lim (a*2^k)).length (qh (lim (a*2^k)))])):=(asY false a k la hk).natF
theorem zH(s:Bool)(m:Nat)(hl:(lim m).length≤2^39):Con Tryz.prog 221 false [.v (.bool s),.ag [.sl (lim (m)).length (qh (lim (m)))]] [] (isA (.ag [.v (.bool (s&&decide (m≠0))),.sl (lim (m)).length (qh (lim (m)))])):=by
 refine Con.frzA ?_
 refine Con.of_w (rs:=[.cell 4 40]) Tryz.func221 rfl Tryz.ntmps221 rfl ?_
 simp(disch:=omega)only[go_sem]
 refine qm rfl [⟨0,[],[]⟩,⟨1,[],[]⟩,⟨2,[],[]⟩,⟨3,[],[]⟩,⟨4,[],[]⟩,⟨5,[],[]⟩,⟨6,[],[]⟩,⟨7,[3],[]⟩,⟨8,[3],[]⟩,⟨9,[3],[]⟩,⟨10,[],[]⟩,⟨11,[],[]⟩] (by kernel_rfl) ?_
 simp(disch:=omega)only[go_sem]
 refine Qe (fun h1=>?_) (fun h1=>?_)
 ·simp(disch:=omega)only[go_sem,h1,aTU]
  refine qb (Jp m hl) ?_
  simp(disch:=omega)only[go_sem]
  exact qq (hp:=by simp(disch:=omega)only[go_sem,h1,Bool.true_and])
 ·simp(disch:=omega)only[go_sem,h1]
  refine qb (Jp m hl) ?_
  simp(disch:=omega)only[go_sem]
  exact qq (hp:=by simp(disch:=omega)only[go_sem,h1,Bool.false_and])
theorem YW(n:Int)(h: -9223372036854775808≤n∧n<9223372036854775808):Con Tryz.prog 174 false [.v (.int .i64 n)] [] (isA (.ag [.v (.bool (decide (n<0))),.sl (lim (n.natAbs)).length (qh (lim (n.natAbs)))])):=by
 refine Con.frzA ?_
 refine Con.of_aw Tryz.func174 rfl Tryz.ntmps174 (by simp) (by simp) (by simp) (W.sound ?_)
 show @W Tryz.prog 15 ⟨_⟩ ⟨fun x σ=>@q9 _ _ _ ⟨_⟩ _ ⟨_⟩ x σ⟩ _ _
 simp(disch:=omega)only[go_sem]
 refine qe (fun h1=>?_) (fun h1=>?_)
 ·simp(disch:=omega)only[go_sem,h1]
  have e1:0-(n+1)=(((0-(n+1)).toNat:Nat):Int):=by omega
  refine qb (Jo (0-(n+1)).toNat (by omega)) ?_ (by simp(disch:=omega)only[go_sem,←e1])
  simp(disch:=omega)only[go_sem]
  refine qb (Jo 1 (by omega)) ?_
  simp(disch:=omega)only[go_sem]
  have l1:=qI (m:=(0-(n+1)).toNat) (B:=64) (zD.2 (by omega))
  have l2:=qI (m:=1) (B:=64) (by decide)
  refine qb (Yc (0-(n+1)).toNat 1 (by omega) (by omega)) ?_
  simp(disch:=omega)only[go_sem]
  have e2:(0-(n+1)).toNat+1=n.natAbs:=by omega
  have l3:=qI (m:=(0-(n+1)).toNat+1) (B:=64) (zD.2 (by omega))
  refine qb (zH true ((0-(n+1)).toNat+1) (by omega)) ?_
  simp(disch:=omega)only[go_sem]
  refine qY (by simp(disch:=omega)only[go_sem]) ?_
  show qN _ 6 _=_
  have e3:decide (n.natAbs≠0)=true:=by simp;omega
  rw[e2]
  simp(disch:=omega)only[go_sem,e3,h1,Bool.true_and]
 ·simp(disch:=omega)only[go_sem,h1]
  have e1:n=((n.natAbs:Nat):Int):=by omega
  refine qb (Jo n.natAbs (by omega)) ?_ (by simp(disch:=omega)only[go_sem,←e1])
  simp(disch:=omega)only[go_sem]
  have l3:=qI (m:=n.natAbs) (B:=64) (zD.2 (by omega))
  refine qb (zH false n.natAbs (by omega)) ?_
  simp(disch:=omega)only[go_sem]
  exact qq (hp:=by simp(disch:=omega)only[go_sem,h1,Bool.false_and])
theorem yS(s:Bool)(m:Nat)(e:Int)(hm:bl m≤8000000)(he: -2^40≤e∧e≤2^40):Con Tryz.prog 173 false [.ag [.v (.bool (s)),.sl (lim (m)).length (qh (lim (m)))],.v (.int .i64 e)] [] (isA (.ag [.v (.bool (oS s m)),.sl (lim (oM m)).length (qh (lim (oM m))),.v (.int .i64 (oE m e))])):=by
 refine Con.frzA ?_
 refine Con.of_aw Tryz.func173 rfl Tryz.ntmps173 (by simp) (by simp) (by simp) (W.sound ?_)
 show @W Tryz.prog 26 ⟨_⟩ ⟨fun x σ=>@q9 _ _ _ ⟨_⟩ _ ⟨_⟩ x σ⟩ _ _
 simp(disch:=omega)only[go_sem]
 have hl:=qI hm
 refine qe (fun h1=>?_) (fun h1=>?_)
 ·simp(disch:=omega)only[go_sem,h1]
  have h0:m=0:=qO.1 (List.length_eq_zero_iff.1 (by omega))
  subst h0
  refine qY (by simp(disch:=omega)only[go_sem]) ?_
  show qN _ 6 _=_
  simp only[oS,Z2,oE,qt,if_true]
  simp(disch:=omega)only[go_sem]
 ·have h0:m≠0:=fun e=>h1 (by rw[e,qt];rfl)
  have ht:=yF h0
  simp(disch:=omega)only[go_sem,h1]
  refine qo (afc m (by omega)) ?_
  simp(disch:=omega)only[go_sem]
  refine qm rfl [⟨0,[],[]⟩,⟨1,[],[]⟩,⟨2,[1],[]⟩,⟨3,[1],[]⟩,⟨4,[1,3],[]⟩,⟨7,[1,3],[]⟩,⟨8,[1,3],[]⟩,⟨9,[1,3],[]⟩,⟨5,[1],[]⟩,⟨6,[],[]⟩,⟨10,[],[]⟩,⟨11,[],[]⟩] (by kernel_rfl) ?_
  simp(disch:=omega)only[go_sem]
  refine qb (asX m (tz m) (by omega) (by omega)) ?_
  simp(disch:=omega)only[go_sem]
  have l3:=qI (Nat.le_trans (Y9 m (2^tz m)) hm)
  refine qb (zH s (m/2^tz m) (by omega)) ?_
  simp(disch:=omega)only[go_sem]
  refine qY (by simp(disch:=omega)only[go_sem]) ?_
  show qN _ 6 _=_
  have h3:decide (m/2^tz m≠0)=true:=by
   have:=(Qw h0).1
   simp only[decide_eq_true_eq];omega
  simp only[oS,oM,oE,if_neg h0]
  simp(disch:=omega)only[go_sem,h3,Bool.and_true]
end Go.Ab
namespace Go.Ab
open Go Go.Proofs
theorem Jq(a b:Nat)(la:(lim a).length≤2^40)(lb:(lim b).length≤2^40):
  Con Tryz.prog 277 true [.ag [.sl (lim (a)).length (qh (lim (a)))],.ag [.sl (lim (b)).length (qh (lim (b)))]] [] (isA (.v (.int .i64 (zQ a b)))):=by
 refine Con.of_w (rs:=[.tmp 4]) Tryz.func277 rfl Tryz.ntmps277 rfl ?_
 simp(disch:=omega)only[go_sem]
 refine zK (fun h1=>?_) (fun h1=>?_)
 ·simp(disch:=omega)only[go_sem,h1]
  refine qe (fun h2=>?_) (fun h2=>?_)
  ·simp(disch:=omega)only[go_sem,h2]
   have:=Qy (a:=a) (b:=b) (by omega)
   rw[show zQ (a:Int) (b:Int)= -1 by unfold zQ;rw[if_pos (by omega)]]
   exact qz
  ·simp(disch:=omega)only[go_sem,h2]
   have:=Qy (a:=b) (b:=a) (by omega)
   rw[show zQ (a:Int) (b:Int)=1 by unfold zQ;rw[if_neg (by omega),if_pos (by omega)]]
   exact qz
 ·simp(disch:=omega)only[go_sem,h1]
  have hl:(lim a).length=(lim b).length:=by omega
  refine qc (fun k:Nat=>[(2,.pt 40000000 0),(3,.pt 50000000 0),(5,.v (.int .i64 ((k:Int)-1)))])
   (fun _=>[(40000000,.own 0 [.sl (lim (a)).length (qh (lim (a)))]),(50000000,.own 0 [.sl (lim (b)).length (qh (lim (b)))])]) (fun k=>k≤(lim a).length∧(lim a).drop k=(lim b).drop k) (fun k=>k) (lim a).length ⟨Nat.le_refl _,by rw[List.drop_length,hl,List.drop_length]⟩ (Le.lst [] _ _ rfl (by simp(disch:=omega)only[go_sem];try omega) (by simp(disch:=omega)only[go_sem])) ?_
  rintro k ⟨hk,hd⟩
  simp(disch:=omega)only[go_sem]
  refine qe (fun h2=>?_) (fun h2=>?_)
  ·obtain⟨i,rfl⟩:∃i,k=i+1:=⟨k-1,by omega⟩
   have ei:((i+1:Nat):Int)-1=(i:Nat):=by omega
   have hva:=zi a
   have hvb:=zi b
   simp(disch:=omega)only[go_sem,h2,ei]
   refine qm rfl [⟨0,[],[]⟩,⟨1,[],[]⟩,⟨2,[1],[]⟩,⟨3,[],[]⟩,⟨4,[],[]⟩,⟨5,[1,4],[]⟩,⟨6,[1,4],[]⟩,⟨7,[1,4,6],[]⟩,⟨8,[1,4],[]⟩,⟨9,[1,4],[]⟩,⟨10,[],[]⟩] (by kernel_rfl) ?_
   simp(disch:=omega)only[go_sem,ei]
   refine⟨by omega,by omega,by omega,by omega,?_⟩
   refine qe (fun h3=>?_) (fun h3=>?_)
   ·simp(disch:=omega)only[go_sem,h3]
    have:=Zt (zj a) (zj b) (by omega) hl hd h3
    rw[show zQ (a:Int) (b:Int)= -1 by unfold zQ;rw[if_pos (by omega)]]
    exact qz
   ·simp(disch:=omega)only[go_sem,h3]
    refine qm rfl [⟨0,[],[]⟩,⟨1,[],[]⟩,⟨2,[1],[]⟩,⟨3,[],[]⟩,⟨4,[],[]⟩,⟨5,[1,4],[]⟩,⟨6,[1,4],[]⟩,⟨7,[1,4,6],[]⟩,⟨8,[1,4],[]⟩,⟨9,[1,4],[]⟩,⟨10,[],[]⟩] (by kernel_rfl) ?_
    simp(disch:=omega)only[go_sem,ei]
    refine⟨by omega,by omega,by omega,by omega,?_⟩
    refine qe (fun h4=>?_) (fun h4=>?_)
    ·simp(disch:=omega)only[go_sem,h4]
     have:=Zt (zj b) (zj a) (by omega) hl.symm hd.symm h4
     rw[show zQ (a:Int) (b:Int)=1 by unfold zQ;rw[if_neg (by omega),if_pos (by omega)]]
     exact qz
    ·simp(disch:=omega)only[go_sem,h4]
     refine qa i [] ⟨by omega,?_⟩ (by show i<i+1;omega) rfl (by simp(disch:=omega)only[go_sem];try omega) (by simp(disch:=omega)only[go_sem])
     have h5:(lim a).getD i 0=(lim b).getD i 0:=by omega
     rw[yA (l:=lim a) (by omega),yA (l:=lim b) (by omega),h5,hd]
  ·simp(disch:=omega)only[go_sem,h2]
   have:k=0:=by omega
   subst this
   rw[List.drop_zero,List.drop_zero]at hd
   have:=Qd hd
   subst this
   rw[show zQ (a:Int) (a:Int)=0 by simp[zQ]]
   exact qz
theorem asW(cl:Bool)(a b:Nat)(hle:b≤a)(la:(lim a).length≤1000000):Con Tryz.prog 303 cl [.ag [.sl (lim (a)).length (qh (lim (a)))],.ag [.sl (lim (b)).length (qh (lim (b)))]] [] (aIO (a-b)):=by
 have lB:(lim b).length≤(lim a).length:=yP hle
 have hA:=zj a
 have hB:=zj b
 refine Con.of_aw Tryz.func303 rfl Tryz.ntmps303 (by simp) (by simp) (by simp) (W.sound ?_)
 show @W Tryz.prog 45 ⟨_⟩ ⟨fun x σ=>@q9 _ _ _ ⟨_⟩ _ ⟨_⟩ x σ⟩ _ _
 simp(disch:=omega)only[go_sem]
 refine qc (fun x:Nat×List Int×Int=>[(2,.pt 2 0),(3,.pt 3 0),(4,.pt 4 0),(5,.rf 1 0 x.2.1.length),(6,.v (.int .i64 x.2.2)),(7,.v (.int .i64 x.1))])
  (fun x=>[(1,.own 1 (qh x.2.1)),(2,.own 0 [.sl (lim (a)).length (qh (lim (a)))]),(3,.own 0 [.sl (lim (b)).length (qh (lim (b)))]),(4,.own 0 [.v (.slice none 0 0)])])
  (fun x=>x.1≤(lim a).length∧x.2.1.length=x.1∧gd x.2.1∧(0≤x.2.2∧x.2.2≤1)∧vl x.2.1-65536^x.1*x.2.2=vl ((lim a).take x.1)-vl ((lim b).take x.1))
  (fun x=>(lim a).length-x.1) (0,[],0) ⟨by simp,rfl,Jd,by simp,by simp[vl]⟩
  ((Le.ghost 5 1 1 (by simp(disch:=omega)only[go_sem]) (by simp(disch:=omega)only[go_sem])).trans (Le.lst [(2,40000000),(3,50000000),(4,60000000)] _ _ rfl (by simp(disch:=omega)only[go_sem]) (by simp(disch:=omega)only[go_sem]))) ?_
 rintro⟨i,out,bo⟩ ⟨hi,hol,hog,hbo,hov⟩
 dsimp only at hi hol hog hbo hov ⊢
 simp(disch:=omega)only[go_sem]
 refine qe (fun h1=>?_) (fun h1=>?_)
 ·have hx:=qQ hA i
  have hy:=qQ hB i
  have hstep:∀z b':Int,(lim a).getD i 0-bo-(lim b).getD i 0=z-65536*b'→vl (out++[z])-65536^(i+1)*b'=vl ((lim a).take (i+1))-vl ((lim b).take (i+1)):=by
   intro z b' hz
   rw[jz,qX,qX,hol,Int.pow_succ]
   generalize (65536:Int)^i=Pi at*
   grind
  have hyz:¬i<(lim b).length→(lim b).getD i 0=0:=fun h=>by rw[List.getD_eq_getElem?_getD,List.getElem?_eq_none (by omega)];rfl
  simp(disch:=omega)only[go_sem,h1]
  refine⟨by omega,by omega,qe (fun h2=>?_) (fun h2=>?_)⟩
  ·simp(disch:=omega)only[go_sem,h2]
   refine⟨by omega,by omega,qe (fun h3=>?_) (fun h3=>?_)⟩
   ·simp(disch:=omega)only[go_sem,h3]
    refine⟨by omega,qa (i+1,out++[(lim a).getD i 0-bo-(lim b).getD i 0+65536],1) [(1,440000000)] ⟨by show i+1≤_;omega,by simp[hol],qM.2 ⟨hog,zZ.2 (by omega)⟩,by simp,hstep ((lim a).getD i 0-bo-(lim b).getD i 0+65536) 1 (by omega)⟩ (by show(lim a).length-(i+1)<(lim a).length-i;omega) rfl (by simp(disch:=omega)only[go_sem,List.length_append];try omega) (by simp(disch:=omega)only[go_sem])⟩
   ·simp(disch:=omega)only[go_sem,h3]
    refine⟨by omega,qa (i+1,out++[(lim a).getD i 0-bo-(lim b).getD i 0],0) [(1,440000000)] ⟨by show i+1≤_;omega,by simp[hol],qM.2 ⟨hog,zZ.2 (by omega)⟩,by simp,hstep ((lim a).getD i 0-bo-(lim b).getD i 0) 0 (by omega)⟩ (by show(lim a).length-(i+1)<(lim a).length-i;omega) rfl (by simp(disch:=omega)only[go_sem,List.length_append];try omega) (by simp(disch:=omega)only[go_sem])⟩
  ·simp(disch:=omega)only[go_sem,h2]
   refine qe (fun h3=>?_) (fun h3=>?_)
   ·simp(disch:=omega)only[go_sem,h3]
    have hy0:=hyz (by omega)
    refine⟨by omega,qa (i+1,out++[(lim a).getD i 0-bo+65536],1) [(1,440000000)] ⟨by show i+1≤_;omega,by simp[hol],qM.2 ⟨hog,zZ.2 (by omega)⟩,by simp,hstep ((lim a).getD i 0-bo+65536) 1 (by omega)⟩ (by show(lim a).length-(i+1)<(lim a).length-i;omega) rfl (by simp(disch:=omega)only[go_sem,List.length_append];try omega) (by simp(disch:=omega)only[go_sem])⟩
   ·simp(disch:=omega)only[go_sem,h3]
    have hy0:=hyz (by omega)
    refine⟨by omega,qa (i+1,out++[(lim a).getD i 0-bo],0) [(1,440000000)] ⟨by show i+1≤_;omega,by simp[hol],qM.2 ⟨hog,zZ.2 (by omega)⟩,by simp,hstep ((lim a).getD i 0-bo) 0 (by omega)⟩ (by show(lim a).length-(i+1)<(lim a).length-i;omega) rfl (by simp(disch:=omega)only[go_sem,List.length_append];try omega) (by simp(disch:=omega)only[go_sem])⟩
 ·simp(disch:=omega)only[go_sem,h1]
  have hiA:i=(lim a).length:=by omega
  subst hiA
  rw[List.take_length,List.take_of_length_le lB]at hov
  have hva:=zi a
  have hvb:=zi b
  have hb0:bo=0:=by
   have h2:=QN hog
   rw[hol]at h2
   rcases(by omega:bo=0∨bo=1)with h|h
   ·exact h
   ·subst h;omega
  subst hb0
  have hov2:vl out=((a-b:Nat):Int):=by omega
  refine qy (jx true out (a-b) (by omega) hog hov2) (by simp(disch:=omega)only[go_sem]) ?_
  rintro r hs (⟨h0,rfl,rfl⟩|⟨zs,rfl,rfl⟩)
  ·refine⟨⟨by simp,by simp(disch:=omega)only[go_sem]⟩,?_⟩
   simp(disch:=omega)only[go_sem]
   refine ql [] [] [] [.ag [.v (.slice none 0 0)]] rfl (by simp(disch:=omega)only[go_sem]) (by simp(disch:=omega)only[go_sem]) (by simp) (by intro _;simp[zt,AV.pu,AV.pu.puL,Ob.pu,ze]) (.inl ⟨h0,rfl,rfl⟩)
  ·refine⟨⟨by simp,by simp(disch:=omega)only[go_sem]⟩,?_⟩
   simp(disch:=omega)only[go_sem]
   refine ql [(0,460000000)] [.own 1 (qh (lim (a-b)++zs))] [] [.ag [.rf 0 0 (lim (a-b)).length]] rfl (by simp(disch:=omega)only[go_sem]) (by simp(disch:=omega)only[go_sem]) (by simp) (by intro _;simp[zt,AV.pu,AV.pu.puL,Ob.pu,ze]) (.inr ⟨zs,rfl,rfl⟩)
end Go.Ab
namespace Go.Ab
open Go Go.Proofs
theorem J9(a b:Nat)(hle:b≤a)(la:(lim a).length≤1000000):Con Tryz.prog 303 false [.ag [.sl (lim (a)).length (qh (lim (a)))],.ag [.sl (lim (b)).length (qh (lim (b)))]] [] (isA (.ag [.sl (lim (a-b)).length (qh (lim (a-b)))])):=(asW false a b hle la).natF
theorem asV(s1:Bool)(m1:Nat)(s2:Bool)(m2:Nat)(h1:bl m1≤6000000)(h2:bl m2≤6000000):
  Con Tryz.prog 262 false [.ag [.v (.bool (s1)),.sl (lim (m1)).length (qh (lim (m1)))],.ag [.v (.bool (s2)),.sl (lim (m2)).length (qh (lim (m2)))]] [] (isA (.ag [.v (.bool (suS s1 m1 s2 m2)),.sl (lim (suM s1 m1 s2 m2)).length (qh (lim (suM s1 m1 s2 m2)))])):=by
 refine Con.frzA ?_
 have l1:=qI h1
 have l2:=qI h2
 have hge:(0≤zQ (m1:Int) (m2:Int))↔m2≤m1:=by rw[atc.2.2];omega
 have hb:=agl (s1:=s1) (s2:=s2) h1 h2
 have l3:=qI hb
 rw[←aqY]
 refine Con.of_w (rs:=[.cell 4 40]) Tryz.func262 rfl Tryz.ntmps262 rfl ?_
 simp(disch:=omega)only[go_sem]
 refine Qe (fun c1=>?_) (fun c1=>?_)
 ·have c1':s1=s2:=by simpa using c1
  simp(disch:=omega)only[go_sem,c1]
  subst c1'
  rw[afQ,afP]at*
  refine qm rfl [⟨0,[],[]⟩,⟨1,[],[]⟩,⟨2,[1],[]⟩,⟨3,[1],[]⟩,⟨4,[1,3],[]⟩,⟨5,[1,3],[]⟩,⟨6,[1],[]⟩,⟨7,[],[]⟩,⟨8,[],[]⟩] (by kernel_rfl) ?_
  simp(disch:=omega)only[go_sem]
  refine qb (Yc m1 m2 (by omega) (by omega)) ?_
  simp(disch:=omega)only[go_sem]
  refine qb (zH s1 (m1+m2) (by omega)) ?_
  simp(disch:=omega)only[go_sem]
  exact qq
 ·have c1':s1≠s2:=by simpa using c1
  simp(disch:=omega)only[go_sem,c1]
  refine qo (Jq m1 m2 (by omega) (by omega)) ?_
  simp(disch:=omega)only[go_sem]
  refine qe (fun c2=>?_) (fun c2=>?_)
  ·have c2':m2≤m1:=hge.1 (by omega)
   rw[aIE c1' c2',aIx c1' c2']at*
   simp(disch:=omega)only[go_sem,c2]
   refine qm rfl [⟨0,[],[]⟩,⟨1,[],[]⟩,⟨2,[1],[]⟩,⟨3,[1],[]⟩,⟨4,[1,3],[]⟩,⟨5,[1,3],[]⟩,⟨6,[1],[]⟩,⟨7,[],[]⟩,⟨8,[],[]⟩] (by kernel_rfl) ?_
   simp(disch:=omega)only[go_sem]
   refine qb (J9 m1 m2 c2' (by omega)) ?_
   simp(disch:=omega)only[go_sem]
   refine qb (zH s1 (m1-m2) (by omega)) ?_
   simp(disch:=omega)only[go_sem]
   exact qq
  ·have c2':¬m2≤m1:=fun h=>c2 (by have:=hge.2 h;omega)
   rw[aID c1' c2',aIw c1' c2']at*
   simp(disch:=omega)only[go_sem,c2]
   refine qm rfl [⟨0,[],[]⟩,⟨1,[],[]⟩,⟨2,[1],[]⟩,⟨3,[1],[]⟩,⟨4,[1,3],[]⟩,⟨5,[1,3],[]⟩,⟨6,[1],[]⟩,⟨7,[],[]⟩,⟨8,[],[]⟩] (by kernel_rfl) ?_
   simp(disch:=omega)only[go_sem]
   refine qb (J9 m2 m1 (by omega) (by omega)) ?_
   simp(disch:=omega)only[go_sem]
   refine qb (zH s2 (m2-m1) (by omega)) ?_
   simp(disch:=omega)only[go_sem]
   exact qq
def alF(m1:Nat)(e1:Int)(m2:Nat)(e2:Int):Int:=if m1=0 then e2 else if m2=0 then e1 else if e1≤e2 then e1 else e2
theorem aZe(m1:Nat)(e1:Int)(m2:Nat)(e2:Int)(h:¬(m1=0∧m2=0)):alF m1 e1 m2 e2=alE m1 e1 m2 e2:=by
 unfold alF alE
 repeat' split
 all_goals omega
theorem Jn(s1:Bool)(m1:Nat)(e1:Int)(s2:Bool)(m2:Nat)(e2:Int)(h1:bl m1≤4000000)(h2:bl m2≤4000000)(he1: -1000000≤e1∧e1≤1000000)(he2: -1000000≤e2∧e2≤1000000)(z1:m1=0→s1=false)(z2:m2=0→s2=false):
  Con Tryz.prog 209 false [.ag [.v (.bool (s1)),.sl (lim (m1)).length (qh (lim (m1))),.v (.int .i64 (e1))],.ag [.v (.bool (s2)),.sl (lim (m2)).length (qh (lim (m2))),.v (.int .i64 (e2))]] [] (isA (.tu [.ag [.v (.bool (s1)),.sl (lim (alA m1 e1 (alE m1 e1 m2 e2))).length (qh (lim (alA m1 e1 (alE m1 e1 m2 e2))))],.ag [.v (.bool (s2)),.sl (lim (alA m2 e2 (alE m1 e1 m2 e2))).length (qh (lim (alA m2 e2 (alE m1 e1 m2 e2))))],.v (.int .i64 (alF m1 e1 m2 e2))])):=by
 refine Con.frzA ?_
 have l1:=qI h1
 have l2:=qI h2
 refine Con.of_aw Tryz.func209 rfl Tryz.ntmps209 (by simp) (by simp) (by simp) (W.sound ?_)
 show @W Tryz.prog 70 ⟨_⟩ ⟨fun x σ=>@q9 _ _ _ ⟨_⟩ _ ⟨_⟩ x σ⟩ _ _
 simp(disch:=omega)only[go_sem]
 refine qe (fun c1=>?_) (fun c1=>?_)
 ·have y1:m1=0:=qO.1 (List.length_eq_zero_iff.1 (by omega))
  have eF:alF m1 e1 m2 e2=e2:=by unfold alF;rw[if_pos y1]
  have a1:alA m1 e1 (alE m1 e1 m2 e2)=m1:=by rw[y1];unfold alA;rw[Nat.zero_mul]
  have a2:alA m2 e2 (alE m1 e1 m2 e2)=m2:=by
   by_cases y2:m2=0
   ·rw[y2];unfold alA;rw[Nat.zero_mul]
   ·unfold alA alE;rw[if_neg y2,if_pos y1,Int.sub_self];simp
  simp(disch:=omega)only[go_sem,c1]
  refine qm rfl [⟨0,[],[]⟩,⟨1,[],[]⟩,⟨2,[1],[]⟩,⟨3,[1],[]⟩,⟨4,[1,3],[]⟩,⟨5,[1,3],[]⟩,⟨6,[3,5],[]⟩,⟨7,[5],[]⟩,⟨8,[],[]⟩] (by kernel_rfl) ?_
  simp(disch:=omega)only[go_sem]
  refine qY (by simp(disch:=omega)only[go_sem]) ?_
  show qN _ 6 _=_
  rw[eF,a1,a2]
  simp(disch:=omega)only[go_sem]
 ·have y1:m1≠0:=fun e=>c1 (by rw[e,qt];rfl)
  simp(disch:=omega)only[go_sem,c1]
  refine qe (fun c2=>?_) (fun c2=>?_)
  ·have y2:m2=0:=qO.1 (List.length_eq_zero_iff.1 (by omega))
   have eF:alF m1 e1 m2 e2=e1:=by unfold alF;rw[if_neg y1,if_pos y2]
   have a1:alA m1 e1 (alE m1 e1 m2 e2)=m1:=by unfold alA alE;rw[if_pos y2,Int.sub_self];simp
   have a2:alA m2 e2 (alE m1 e1 m2 e2)=m2:=by rw[y2];unfold alA;rw[Nat.zero_mul]
   simp(disch:=omega)only[go_sem,c2]
   refine qm rfl [⟨0,[],[]⟩,⟨1,[],[]⟩,⟨2,[1],[]⟩,⟨3,[1],[]⟩,⟨4,[1,3],[]⟩,⟨5,[1,3],[]⟩,⟨6,[3,5],[]⟩,⟨7,[5],[]⟩,⟨8,[],[]⟩] (by kernel_rfl) ?_
   simp(disch:=omega)only[go_sem]
   refine qY (by simp(disch:=omega)only[go_sem]) ?_
   show qN _ 6 _=_
   rw[eF,a1,a2]
   simp(disch:=omega)only[go_sem]
  ·have y2:m2≠0:=fun e=>c2 (by rw[e,qt];rfl)
   simp(disch:=omega)only[go_sem,c2]
   refine qe (fun c3=>?_) (fun c3=>?_)
   ·have eF:alF m1 e1 m2 e2=e1:=by unfold alF;rw[if_neg y1,if_neg y2,if_pos c3]
    have eE:alE m1 e1 m2 e2=e1:=by unfold alE;rw[if_neg y2,if_neg y1,if_neg (by omega)]
    have a1:alA m1 e1 (alE m1 e1 m2 e2)=m1:=by rw[eE];unfold alA;rw[Int.sub_self];simp
    have ek:e2-e1=(((e2-e1).toNat:Nat):Int):=by omega
    have hb:bl (m2*2^(e2-e1).toNat)≤6000000:=by have:=Y6 m2 (e2-e1).toNat;omega
    have l3:=qI hb
    have hn:m2*2^(e2-e1).toNat≠0:=Nat.mul_ne_zero y2 (Nat.pos_iff_ne_zero.1 (Nat.pow_pos (by omega)))
    have hd:decide (m2*2^(e2-e1).toNat≠0)=true:=decide_eq_true hn
    simp(disch:=omega)only[go_sem,c3]
    refine qm rfl [⟨0,[],[]⟩,⟨1,[],[]⟩,⟨2,[1],[]⟩,⟨3,[1],[]⟩,⟨4,[1],[]⟩,⟨5,[1,4],[]⟩,⟨6,[1,4],[]⟩,⟨7,[1,4],[]⟩,⟨8,[1,4,7],[]⟩,⟨9,[1,4,7],[]⟩,⟨10,[1,4,7,9],[]⟩,⟨11,[1,4,7,9],[]⟩,⟨12,[1,4,7],[]⟩,⟨15,[1,4,7,9,11],[]⟩,⟨16,[1,4,7,9,11],[]⟩,⟨13,[1,4,16],[]⟩,⟨14,[1,16],[]⟩,⟨17,[16],[]⟩,⟨18,[16],[]⟩,⟨19,[],[]⟩] (by kernel_rfl) ?_
    simp(disch:=omega)only[go_sem]
    refine qK (Ya m2 (e2-e1).toNat (by omega) (by omega)) (by simp(disch:=omega)only[go_sem,←ek]) ?_
    rintro r hs ⟨rfl,rfl,_⟩
    refine⟨by simp[qG],?_⟩
    simp(disch:=omega)only[go_sem]
    refine qb (zH s2 (m2*2^(e2-e1).toNat) (by omega)) ?_
    simp(disch:=omega)only[go_sem]
    refine qY (by simp(disch:=omega)only[go_sem]) ?_
    show qN _ 6 _=_
    rw[eF,a1,eE,hd];unfold alA
    simp(disch:=omega)only[go_sem,Bool.and_true]
   ·have eF:alF m1 e1 m2 e2=e2:=by unfold alF;rw[if_neg y1,if_neg y2,if_neg c3]
    have eE:alE m1 e1 m2 e2=e2:=by unfold alE;rw[if_neg y2,if_neg y1,if_pos (by omega)]
    have a2:alA m2 e2 (alE m1 e1 m2 e2)=m2:=by rw[eE];unfold alA;rw[Int.sub_self];simp
    have ek:e1-e2=(((e1-e2).toNat:Nat):Int):=by omega
    have hb:bl (m1*2^(e1-e2).toNat)≤6000000:=by have:=Y6 m1 (e1-e2).toNat;omega
    have l3:=qI hb
    have hn:m1*2^(e1-e2).toNat≠0:=Nat.mul_ne_zero y1 (Nat.pos_iff_ne_zero.1 (Nat.pow_pos (by omega)))
    have hd:decide (m1*2^(e1-e2).toNat≠0)=true:=decide_eq_true hn
    simp(disch:=omega)only[go_sem,c3]
    refine qm rfl [⟨0,[],[]⟩,⟨1,[],[]⟩,⟨2,[],[]⟩,⟨3,[2],[]⟩,⟨4,[2],[]⟩,⟨5,[2],[]⟩,⟨6,[2,5],[]⟩,⟨7,[2,5],[]⟩,⟨8,[2,5,7],[]⟩,⟨9,[2,5,7],[]⟩,⟨10,[2,5],[]⟩,⟨13,[2,5,7,9],[]⟩,⟨14,[2,5,7,9],[]⟩,⟨15,[2,5,7,9,14],[]⟩,⟨16,[2,5,7,9,14],[]⟩,⟨11,[2,14,16],[]⟩,⟨12,[14,16],[]⟩,⟨17,[14,16],[]⟩,⟨18,[16],[]⟩,⟨19,[],[]⟩] (by kernel_rfl) ?_
    simp(disch:=omega)only[go_sem]
    refine qK (Ya m1 (e1-e2).toNat (by omega) (by omega)) (by simp(disch:=omega)only[go_sem,←ek]) ?_
    rintro r hs ⟨rfl,rfl,_⟩
    refine⟨by simp[qG],?_⟩
    simp(disch:=omega)only[go_sem]
    refine qb (zH s1 (m1*2^(e1-e2).toNat) (by omega)) ?_
    simp(disch:=omega)only[go_sem]
    refine qY (by simp(disch:=omega)only[go_sem]) ?_
    show qN _ 6 _=_
    rw[eF,a2,eE,hd];unfold alA
    simp(disch:=omega)only[go_sem,Bool.and_true]
theorem asT(s1:Bool)(m1:Nat)(e1:Int)(s2:Bool)(m2:Nat)(e2:Int)(h1:bl m1≤4000000)(h2:bl m2≤4000000)(he1: -1000000≤e1∧e1≤1000000)(he2: -1000000≤e2∧e2≤1000000)(z1:m1=0→s1=false)(z2:m2=0→s2=false):
  Con Tryz.prog 181 false [.ag [.v (.bool (s1)),.sl (lim (m1)).length (qh (lim (m1))),.v (.int .i64 (e1))],.ag [.v (.bool (s2)),.sl (lim (m2)).length (qh (lim (m2))),.v (.int .i64 (e2))]] [] (isA (.ag [.v (.bool (oS (adS s1 m1 e1 s2 m2 e2) (adM s1 m1 e1 s2 m2 e2))),.sl (lim (oM (adM s1 m1 e1 s2 m2 e2))).length (qh (lim (oM (adM s1 m1 e1 s2 m2 e2)))),.v (.int .i64 (oE (adM s1 m1 e1 s2 m2 e2) (alE m1 e1 m2 e2)))])):=by
 refine Con.frzA ?_
 have hE:=QK (m1:=m1) (m2:=m2) he1.1 he2.1
 have b1:=Zj (e:=e1) (E:=alE m1 e1 m2 e2) (C:=2000000) h1 (by omega)
 have b2:=Zj (e:=e2) (E:=alE m1 e1 m2 e2) (C:=2000000) h2 (by omega)
 have hF: -1000000≤alF m1 e1 m2 e2∧alF m1 e1 m2 e2≤1000000:=by
  unfold alF
  repeat' split
  all_goals omega
 have hX:oE (adM s1 m1 e1 s2 m2 e2) (alE m1 e1 m2 e2)=oE (adM s1 m1 e1 s2 m2 e2) (alF m1 e1 m2 e2):=by
  by_cases h:m1=0∧m2=0
  ·have:adM s1 m1 e1 s2 m2 e2=0:=by rw[h.1,h.2];unfold adM alA;rw[Nat.zero_mul,Nat.zero_mul];unfold suM;rw[yo,yo];rfl
   rw[this];rfl
  ·rw[aZe _ _ _ _ h]
 rw[hX]
 have l1:=qI h1
 have l2:=qI h2
 refine Con.of_w (rs:=[.cell 4 42]) Tryz.func181 rfl Tryz.ntmps181 rfl ?_
 simp(disch:=omega)only[go_sem]
 refine qb (Jn s1 m1 e1 s2 m2 e2 h1 h2 he1 he2 z1 z2) ?_
 simp(disch:=omega)only[go_sem]
 unfold adS adM
 generalize alA m1 e1 (alE m1 e1 m2 e2)=A at*
 generalize alA m2 e2 (alE m1 e1 m2 e2)=B at*
 generalize alF m1 e1 m2 e2=E at*
 refine qb (asV s1 A s2 B (by omega) (by omega)) ?_
 simp(disch:=omega)only[go_sem]
 have hb:=agl (s1:=s1) (s2:=s2) b1 b2
 refine qb (yS (suS s1 A s2 B) (suM s1 A s2 B) E (by omega) (by omega)) ?_
 simp(disch:=omega)only[go_sem]
 exact qq
end Go.Ab
namespace Go.Ab
open Go Go.Proofs
def srM(s:Bool)(m:Nat)(e low mode:Int):Nat:=oM (roM s m e low mode)
def srE(s:Bool)(m:Nat)(e low mode:Int):Int:=if low≤e∨m=0 then e else oE (roM s m e low mode) low
end Go.Ab
namespace Go.Ab
open Go Go.Proofs
end Go.Ab
namespace Go.Ab
open Go Go.Proofs
theorem alm(xs:List Int)(hl:xs.length≤2^40):Con Tryz.prog 253 true [.ag [.sl xs.length (qh xs)]] [] (isA (.v (.bool (Yx xs)))):=by
 refine Con.of_aw Tryz.func253 rfl Tryz.ntmps253 (by simp) (by simp) (by simp) (W.sound ?_)
 show @W Tryz.prog 44 ⟨_⟩ ⟨fun x σ=>@q9 _ _ _ ⟨_⟩ _ ⟨_⟩ x σ⟩ _ _
 simp(disch:=omega)only[go_sem]
 refine qe (fun h1=>?_) (fun h1=>?_)
 ·simp(disch:=omega)only[go_sem,h1]
  refine qC (by simp(disch:=omega)only[go_sem]) (by simp(disch:=omega)only[go_sem]) ⟨?_,rfl,rfl⟩
  have:¬(xs.length≤100):=by omega
  simp[zt,Yx,this]
 ·simp(disch:=omega)only[go_sem,h1]
  refine qc (fun i:Nat=>[(1,.pt 30000000 0),(2,.v (.bool false)),(3,.v (.int .i64 i))]) (fun _=>[(30000000,.own 0 [.sl xs.length (qh xs)])]) (fun i=>i≤xs.length∧∀x∈xs.take i,0≤x∧x≤65535) (fun i=>xs.length-i) 0 ⟨by omega,by simp⟩
   (Le.lst [] _ _ rfl (by simp(disch:=omega)only[go_sem]) (by simp(disch:=omega)only[go_sem])) ?_
  rintro i ⟨hi,hx⟩
  simp(disch:=omega)only[go_sem]
  refine qe (fun h2=>?_) (fun h2=>?_)
  ·simp(disch:=omega)only[go_sem,h2]
   have hmem:xs.getD i 0∈xs:=by
    rw[List.getD_eq_getElem?_getD,List.getElem?_eq_getElem (by omega)];exact List.getElem_mem _
   have bad:¬(0≤xs.getD i 0∧xs.getD i 0≤65535)→Yx xs=false:=by
    intro hc
    unfold Yx
    have:xs.all (fun x=>decide (0≤x)&&decide (x≤65535))=false:=by
     rw[List.all_eq_false]
     refine⟨_,hmem,?_⟩
     simp only[Bool.and_eq_true,decide_eq_true_eq];exact hc
    rw[this];simp
   refine⟨by omega,by omega,?_⟩
   refine zK (fun h3=>?_) (fun h3=>?_)
   ·simp(disch:=omega)only[go_sem,h3]
    refine⟨by omega,by omega,?_⟩
    refine qe (fun h4=>?_) (fun h4=>?_)
    ·simp(disch:=omega)only[go_sem,h4]
     rw[bad (by omega)]
     exact qz
    ·simp(disch:=omega)only[go_sem,h4]
     refine qa (i+1) [] ⟨by omega,?_⟩ (by show xs.length-(i+1)<xs.length-i;omega) rfl (by simp(disch:=omega)only[go_sem];try omega) (by simp(disch:=omega)only[go_sem])
     intro x hxx
     rw[List.take_add_one]at hxx
     rcases List.mem_append.1 hxx with h|h
     ·exact hx x h
     ·rw[List.getElem?_eq_getElem (by omega)]at h
      simp at h
      rw[List.getD_eq_getElem?_getD,List.getElem?_eq_getElem (by omega)]at h3 h4
      simp at h3 h4
      subst h
      omega
   ·simp(disch:=omega)only[go_sem,h3]
    rw[bad (by omega)]
    exact qz
  ·have:i=xs.length:=by omega
   subst this
   rw[List.take_length]at hx
   have hall:xs.all (fun x=>decide (0≤x)&&decide (x≤65535))=true:=by
    rw[List.all_eq_true]
    intro x h;have:=hx x h;simp only[Bool.and_eq_true,decide_eq_true_eq];exact this
   have e1:decide (xs.length≤100)=true:=by simp;omega
   simp(disch:=omega)only[go_sem,h2]
   refine zK (fun h3=>?_) (fun h3=>?_)
   ·have en:((xs.length:Int)-1).toNat=xs.length-1:=by omega
    have hmem:xs.getD (xs.length-1) 0∈xs:=by
     rw[List.getD_eq_getElem?_getD,List.getElem?_eq_getElem (by omega)];exact List.getElem_mem _
    have hp:=hx _ hmem
    simp(disch:=omega)only[go_sem,h3,en]
    refine⟨by omega,by omega,?_⟩
    refine qC (by simp(disch:=omega)only[go_sem]) (by simp(disch:=omega)only[go_sem]) ⟨?_,rfl,rfl⟩
    have e2:decide (xs.length=0)=false:=by simp;intro h;subst h;simp at h3
    show AV.v (.bool _)=AV.v (.bool _)
    unfold Yx
    rw[e1,hall,e2,Bool.false_or,Bool.true_and,Bool.true_and]
    congr 2
    rw[decide_eq_decide]
    omega
   ·simp(disch:=omega)only[go_sem,h3]
    refine qC (by simp(disch:=omega)only[go_sem]) (by simp(disch:=omega)only[go_sem]) ⟨?_,rfl,rfl⟩
    have e2:decide (xs.length=0)=true:=by simp;exact List.length_eq_zero_iff.1 (by omega)
    show AV.v (.bool _)=AV.v (.bool _)
    unfold Yx
    rw[e1,hall,e2]
    simp
theorem Zg(s:Bool)(xs:List Int)(hl:xs.length≤2^40):Con Tryz.prog 170 true [.ag [.v (.bool s),.sl xs.length (qh xs)]] [] (isA (.v (.bool (zS s xs)))):=by
 refine Con.of_aw Tryz.func170 rfl Tryz.ntmps170 (by simp) (by simp) (by simp) (W.sound ?_)
 show @W Tryz.prog 18 ⟨_⟩ ⟨fun x σ=>@q9 _ _ _ ⟨_⟩ _ ⟨_⟩ x σ⟩ _ _
 simp(disch:=omega)only[go_sem]
 refine qo (alm xs hl) ?_
 simp(disch:=omega)only[go_sem]
 refine Qe (fun h1=>?_) (fun h1=>?_)
 ·simp(disch:=omega)only[go_sem,h1]
  cases s
  ·simp(disch:=omega)only[go_sem]
   refine qC (by simp(disch:=omega)only[go_sem]) (by simp(disch:=omega)only[go_sem]) ⟨?_,rfl,rfl⟩
   simp[zt,zS,h1]
  ·simp(disch:=omega)only[go_sem]
   refine qC (by simp(disch:=omega)only[go_sem]) (by simp(disch:=omega)only[go_sem]) ⟨?_,rfl,rfl⟩
   show AV.v (.bool _)=AV.v (.bool _)
   unfold zS
   rw[h1,Bool.true_and,Bool.true_and,←decide_not]
   congr 2
   rw[decide_eq_decide]
   omega
 ·simp(disch:=omega)only[go_sem,h1]
  refine qC (by simp(disch:=omega)only[go_sem]) (by simp(disch:=omega)only[go_sem]) ⟨?_,rfl,rfl⟩
  simp[zt,zS,h1]
theorem QH(s:Bool)(xs:List Int)(e:Int)(hl:xs.length≤2^40):Con Tryz.prog 93 true [.ag [.v (.bool s),.sl xs.length (qh xs),.v (.int .i64 e)]] [] (isA (.v (.bool (dyB s xs e)))):=by
 refine Con.of_aw Tryz.func93 rfl Tryz.ntmps93 (by simp) (by simp) (by simp) (W.sound ?_)
 show @W Tryz.prog 31 ⟨_⟩ ⟨fun x σ=>@q9 _ _ _ ⟨_⟩ _ ⟨_⟩ x σ⟩ _ _
 simp(disch:=omega)only[go_sem]
 refine qo (Zg s xs hl) ?_
 simp(disch:=omega)only[go_sem]
 refine Qe (fun hw=>?_) (fun hw=>?_)
 ·have h1:=hw
  simp only[zS,Bool.and_eq_true]at h1
  obtain⟨hx,hll⟩:=Zy h1.1
  have hxs:xs=lim (vl xs).toNat:=hx
  generalize hm:(vl xs).toNat=m at*
  subst hx
  simp(disch:=omega)only[go_sem,hw]
  refine zK (fun h2=>?_) (fun h2=>?_)
  ·simp(disch:=omega)only[go_sem,h2]
   refine qe (fun h3=>?_) (fun h3=>?_)
   ·simp(disch:=omega)only[go_sem,h3]
    refine qC (by simp(disch:=omega)only[go_sem]) (by simp(disch:=omega)only[go_sem]) ⟨?_,rfl,rfl⟩
    have a2:¬e≤3000:=by omega
    simp[zt,dyB,a2]
   ·simp(disch:=omega)only[go_sem,h3]
    refine qe (fun h4=>?_) (fun h4=>?_)
    ·simp(disch:=omega)only[go_sem,h4]
     have h0:m=0:=qO.1 (List.length_eq_zero_iff.1 (by omega))
     refine qC (by simp(disch:=omega)only[go_sem]) (by simp(disch:=omega)only[go_sem]) ⟨?_,rfl,rfl⟩
     have a1: -3000≤e:=by omega
     have a2:e≤3000:=by omega
     have a3:(lim m).length=0:=by omega
     show AV.v (.bool _)=AV.v (.bool _)
     unfold dyB
     rw[hw,hm,decide_eq_true a1,decide_eq_true a2,decide_eq_true a3,h0]
     simp
    ·simp(disch:=omega)only[go_sem,h4]
     refine qo (aaT m 0 (by omega) (by omega) (by omega)) ?_
     simp(disch:=omega)only[go_sem]
     refine qC (by simp(disch:=omega)only[go_sem]) (by simp(disch:=omega)only[go_sem]) ⟨?_,rfl,rfl⟩
     have a1: -3000≤e:=by omega
     have a2:e≤3000:=by omega
     have a3:¬(lim m).length=0:=by omega
     show AV.v (.bool _)=AV.v (.bool _)
     unfold dyB
     rw[hw,hm,decide_eq_true a1,decide_eq_true a2,decide_eq_false a3]
     simp
     omega
  ·simp(disch:=omega)only[go_sem,h2]
   refine qC (by simp(disch:=omega)only[go_sem]) (by simp(disch:=omega)only[go_sem]) ⟨?_,rfl,rfl⟩
   have a1:¬ -3000≤e:=by omega
   simp[zt,dyB,a1]
 ·simp(disch:=omega)only[go_sem,hw]
  refine qC (by simp(disch:=omega)only[go_sem]) (by simp(disch:=omega)only[go_sem]) ⟨?_,rfl,rfl⟩
  simp[zt,dyB,hw]
end Go.Ab
namespace Go.Ab
open Go Go.Proofs
theorem QF(s:Bool)(m:Nat)(e:Int):dyB (oS s m) (lim (oM m)) (oE m e)=jW m e:=by
 unfold dyB zS jW jS
 rw[zi,Int.toNat_natCast]
 have hod:=aTG m
 have hz:=bkR s m
 by_cases h:(lim (oM m)).length≤100
 ·rw[arx _ h,decide_eq_true h,Bool.true_and,Bool.true_and]
  by_cases h0:oM m=0
  ·have hm:m=0:=yJ.1 h0
   rw[hz h0,h0,hm]
   simp[oE,qt]
  ·have h1:oM m % 2=1:=hod.resolve_right h0
   have h2:decide ((lim (oM m)).length=0)=false:=by
    have:=y3 h0
    exact decide_eq_false (by omega)
   rw[h2,decide_eq_true h1]
   simp
 ·rw[decide_eq_false h]
  have:Yx (lim (oM m))=false:=by unfold Yx;rw[decide_eq_false h,Bool.false_and]
  rw[this];simp
theorem alq(s:Bool)(m:Nat)(e:Int)(hl:(lim (oM m)).length≤2^40):Con Tryz.prog 172 false [.ag [.v (.bool (oS s m)),.sl (lim (oM m)).length (qh (lim (oM m))),.v (.int .i64 (oE m e))]] [] (isA (if jW m e=true then .tu [.ag [.v (.bool (oS s m)),.sl (lim (oM m)).length (qh (lim (oM m))),.v (.int .i64 (oE m e))],.v (.bool true)]else .tu [.ag [.v (.bool (false)),.sl (lim (0)).length (qh (lim (0))),.v (.int .i64 (0))],.v (.bool false)])):=by
 refine Con.frzA ?_
 have ck:=QH (oS s m) (lim (oM m)) (oE m e) hl
 rw[QF]at ck
 cases hd:jW m e
 ·rw[hd]at ck
  rw[if_neg (by simp),qt]
  refine Con.of_w (rs:=[.cell 2 42,.tmp 3]) Tryz.func172 rfl Tryz.ntmps172 rfl ?_
  simp(disch:=omega)only[go_sem]
  refine qo (ck) ?_
  simp(disch:=omega)only[go_sem]
  exact qq
 ·rw[hd]at ck
  rw[if_pos rfl]
  refine Con.of_w (rs:=[.cell 2 42,.tmp 3]) Tryz.func172 rfl Tryz.ntmps172 rfl ?_
  simp(disch:=omega)only[go_sem]
  refine qo (ck) ?_
  simp(disch:=omega)only[go_sem]
  exact qq
def pmS(s1:Bool)(m1:Nat)(s2:Bool)(m2:Nat):Bool:=(s1 != s2)&&decide (m1*m2≠0)
end Go.Ab
namespace Go.Ab
open Go Go.Proofs
theorem asU(s1:Bool)(m1:Nat)(s2:Bool)(m2:Nat)(l1:(lim m1).length≤2^40)(l2:(lim m2).length≤2^40)(z1:m1=0→s1=false)(z2:m2=0→s2=false):
  Con Tryz.prog 210 true [.ag [.v (.bool (s1)),.sl (lim (m1)).length (qh (lim (m1)))],.ag [.v (.bool (s2)),.sl (lim (m2)).length (qh (lim (m2)))]] [] (isA (.v (.int .i64 (zQ (sv s1 m1) (sv s2 m2))))):=by
 rw[abb z1 z2]
 cases s1<;>cases s2
 ·refine Con.of_w (rs:=[.tmp 4]) Tryz.func210 rfl Tryz.ntmps210 rfl ?_
  simp(disch:=omega)only[go_sem]
  refine qo (Jq m1 m2 l1 l2) ?_
  simp(disch:=omega)only[go_sem]
  exact qz
 ·refine Con.of_w (rs:=[.tmp 4]) Tryz.func210 rfl Tryz.ntmps210 rfl ?_
  simp(disch:=omega)only[go_sem]
  exact qz
 ·refine Con.of_w (rs:=[.tmp 4]) Tryz.func210 rfl Tryz.ntmps210 rfl ?_
  simp(disch:=omega)only[go_sem]
  exact qz
 ·refine Con.of_w (rs:=[.tmp 4]) Tryz.func210 rfl Tryz.ntmps210 rfl ?_
  simp(disch:=omega)only[go_sem]
  refine qo (Jq m2 m1 l2 l1) ?_
  simp(disch:=omega)only[go_sem]
  exact qz
theorem asS(K:Nat)(s1:Bool)(m1:Nat)(e1:Int)(s2:Bool)(m2:Nat)(e2:Int)(h1:bl m1≤4000000)(h2:bl m2≤4000000)(he1: -1000000≤e1∧e1≤1000000)(he2: -1000000≤e2∧e2≤1000000)(k1: -(K:Int)≤e1)(k2: -(K:Int)≤e2)(z1:m1=0→s1=false)(z2:m2=0→s2=false):
  Con Tryz.prog 118 true [.ag [.v (.bool (s1)),.sl (lim (m1)).length (qh (lim (m1))),.v (.int .i64 (e1))],.ag [.v (.bool (s2)),.sl (lim (m2)).length (qh (lim (m2))),.v (.int .i64 (e2))]] [] (isA (.v (.int .i64 (zQ (dv K s1 m1 e1) (dv K s2 m2 e2))))):=by
 have hE:=QK (m1:=m1) (m2:=m2) he1.1 he2.1
 have b1:=qI (Zj (e:=e1) (E:=alE m1 e1 m2 e2) (C:=2000000) h1 (by omega))
 have b2:=qI (Zj (e:=e2) (E:=alE m1 e1 m2 e2) (C:=2000000) h2 (by omega))
 rw[←atd k1 k2]
 have y1:alA m1 e1 (alE m1 e1 m2 e2)=0→s1=false:=fun h=>z1 (QL.1 h)
 have y2:alA m2 e2 (alE m1 e1 m2 e2)=0→s2=false:=fun h=>z2 (QL.1 h)
 refine Con.of_w (rs:=[.tmp 4]) Tryz.func118 rfl Tryz.ntmps118 rfl ?_
 simp(disch:=omega)only[go_sem]
 refine qb (Jn s1 m1 e1 s2 m2 e2 h1 h2 he1 he2 z1 z2) ?_
 simp(disch:=omega)only[go_sem]
 refine qo (asU s1 (alA m1 e1 (alE m1 e1 m2 e2)) s2 (alA m2 e2 (alE m1 e1 m2 e2)) (by omega) (by omega) y1 y2) ?_
 simp(disch:=omega)only[go_sem]
 exact qz
theorem alL(s1:Bool)(m1:Nat)(e1:Int)(s2:Bool)(m2:Nat)(e2:Int)(h1:dyB s1 (lim m1) e1=true)(h2:dyB s2 (lim m2) e2=true):
  Con Tryz.prog 40 true [.ag [.v (.bool (s1)),.sl (lim (m1)).length (qh (lim (m1))),.v (.int .i64 (e1))],.ag [.v (.bool (s2)),.sl (lim (m2)).length (qh (lim (m2))),.v (.int .i64 (e2))]] [] (isA (.v (.int .i64 (zQ (dv 3000 s1 m1 e1) (dv 3000 s2 m2 e2))))):=by
 obtain⟨n1,q1,b1,c1,d1,_,f1⟩:=Jj h1
 obtain⟨n2,q2,b2,c2,d2,_,f2⟩:=Jj h2
 obtain rfl:=Qd q1
 obtain rfl:=Qd q2
 have k1:=QH s1 (lim m1) e1 (by omega)
 have k2:=QH s2 (lim m2) e2 (by omega)
 rw[h1]at k1
 rw[h2]at k2
 refine Con.of_w (rs:=[.tmp 4]) Tryz.func40 rfl Tryz.ntmps40 rfl ?_
 simp(disch:=omega)only[go_sem]
 refine qo (k1) ?_
 simp(disch:=omega)only[go_sem]
 refine qo (k2) ?_
 simp(disch:=omega)only[go_sem]
 refine qo (asS 3000 s1 m1 e1 s2 m2 e2 (by omega) (by omega) (by omega) (by omega) (by omega) (by omega) f1 f2) ?_
 simp(disch:=omega)only[go_sem]
 exact qz
theorem Zh(n:Int)(h: -9223372036854775808≤n∧n<9223372036854775808):Con Tryz.prog 79 false [.v (.int .i64 n)] [] (isA (.ag [.v (.bool (decide (n<0))),.sl (lim (n.natAbs)).length (qh (lim (n.natAbs)))])):=by
 refine Con.frzA ?_
 refine Con.of_w (rs:=[.cell 2 40]) Tryz.func79 rfl Tryz.ntmps79 rfl ?_
 simp(disch:=omega)only[go_sem]
 refine qb (YW n h) ?_
 simp(disch:=omega)only[go_sem]
 exact qq
theorem aQs(e:Int):Con Tryz.prog 171 true [.v (.int .i64 e)] [] (isA (.v (.bool (decide (-12000≤e)&&decide (e≤12000))))):=by
 refine Con.of_aw Tryz.func171 rfl Tryz.ntmps171 (by simp) (by simp) (by simp) (W.sound ?_)
 show @W Tryz.prog 9 ⟨_⟩ ⟨fun x σ=>@q9 _ _ _ ⟨_⟩ _ ⟨_⟩ x σ⟩ _ _
 simp(disch:=omega)only[go_sem]
 repeat' first
  |simp(disch:=omega)only[go_sem, *]
  |(with_reducible refine qe (fun _=>?_) (fun _=>?_))
  |(with_reducible refine zK (fun _=>?_) (fun _=>?_))
  |(with_reducible refine af2 (fun _=>?_) (fun _=>?_))
  |(with_reducible refine Qe (fun _=>?_) (fun _=>?_))
 all_goals exact qC (by simp(disch:=omega)only[go_sem]) (by simp(disch:=omega)only[go_sem]) ⟨by simp_all[zt]<;>omega,rfl,rfl⟩
theorem aa9(s:Bool)(m:Nat)(e:Int)(h:zS s (lim m)=true)(he: -12000≤e∧e≤12000):
  Con Tryz.prog 78 false [.ag [.v (.bool (s)),.sl (lim (m)).length (qh (lim (m)))],.v (.int .i64 e)] [] (isA (if jW m e=true then .tu [.ag [.v (.bool (oS s m)),.sl (lim (oM m)).length (qh (lim (oM m))),.v (.int .i64 (oE m e))],.v (.bool true)]else .tu [.ag [.v (.bool (false)),.sl (lim (0)).length (qh (lim (0))),.v (.int .i64 (0))],.v (.bool false)])):=by
 refine Con.frzA ?_
 have h':=h
 simp only[zS,Bool.and_eq_true]at h'
 obtain⟨_,hl⟩:=Zy h'.1
 have hb:=abf (m:=m)
 have hb2:=qI (Nat.le_trans (yi (aFg m)) hb)
 have k1:=Zg s (lim m) (by omega)
 rw[h]at k1
 have k2:=aQs e
 rw[decide_eq_true he.1,decide_eq_true he.2]at k2
 have cf:=alq s m e (by omega)
 cases hd:jW m e
 ·rw[hd,if_neg (by simp),qt]at cf
  rw[if_neg (by simp),qt]
  refine Con.of_w (rs:=[.cell 4 42,.tmp 5]) Tryz.func78 rfl Tryz.ntmps78 rfl ?_
  simp(disch:=omega)only[go_sem]
  refine qo (k1) ?_
  simp(disch:=omega)only[go_sem]
  refine qo (k2) ?_
  simp(disch:=omega)only[go_sem]
  refine qb (yS s m e (by omega) (by omega)) ?_
  simp(disch:=omega)only[go_sem]
  refine qb (cf) ?_
  simp(disch:=omega)only[go_sem]
  exact qq
 ·rw[hd,if_pos rfl]at cf
  rw[if_pos rfl]
  refine Con.of_w (rs:=[.cell 4 42,.tmp 5]) Tryz.func78 rfl Tryz.ntmps78 rfl ?_
  simp(disch:=omega)only[go_sem]
  refine qo (k1) ?_
  simp(disch:=omega)only[go_sem]
  refine qo (k2) ?_
  simp(disch:=omega)only[go_sem]
  refine qb (yS s m e (by omega) (by omega)) ?_
  simp(disch:=omega)only[go_sem]
  refine qb (cf) ?_
  simp(disch:=omega)only[go_sem]
  exact qq
theorem abn:tz 1=0:=afG rfl
theorem Qc:lim 1=[1]:=by rw[yf (by omega)];simp[qt]
/-! ### Sameness-/
theorem ae5(a b:Nat)(la:(lim a).length≤2^40)(lb:(lim b).length≤2^40):Con Tryz.prog 200 true [.ag [.sl (lim (a)).length (qh (lim (a)))],.ag [.sl (lim (b)).length (qh (lim (b)))]] [] (isA (.v (.bool (decide (a=b))))):=by
 refine Con.of_w (rs:=[.tmp 4]) Tryz.func200 rfl Tryz.ntmps200 rfl ?_
 simp(disch:=omega)only[go_sem]
 refine zK (fun h1=>?_) (fun h1=>?_)
 ·simp(disch:=omega)only[go_sem,h1]
  rw[decide_eq_false (fun e=>h1 (by rw[e]))]
  exact qz
 ·have hl:(lim a).length=(lim b).length:=by omega
  simp(disch:=omega)only[go_sem,h1]
  refine qc (fun i:Nat=>[(2,.pt 40000000 0),(3,.pt 50000000 0),(5,.v (.int .i64 i))]) (fun _=>[(40000000,.own 0 [.sl (lim (a)).length (qh (lim (a)))]),(50000000,.own 0 [.sl (lim (b)).length (qh (lim (b)))])])
   (fun i=>i≤(lim a).length∧(lim a).take i=(lim b).take i) (fun i=>(lim a).length-i) 0 ⟨by omega,by simp⟩ (Le.lst [] _ _ rfl (by simp(disch:=omega)only[go_sem];try omega) (by simp(disch:=omega)only[go_sem])) ?_
  rintro i ⟨hi,ht⟩
  simp(disch:=omega)only[go_sem]
  refine qe (fun h2=>?_) (fun h2=>?_)
  ·simp(disch:=omega)only[go_sem,h2]
   refine qm rfl [⟨0,[],[]⟩,⟨1,[],[]⟩,⟨2,[1],[]⟩,⟨3,[],[]⟩,⟨4,[],[]⟩,⟨5,[1,4],[]⟩,⟨6,[1,4],[]⟩,⟨7,[1,4,6],[]⟩,⟨8,[1,4],[]⟩,⟨9,[1,4],[]⟩,⟨10,[],[]⟩] (by kernel_rfl) ?_
   simp(disch:=omega)only[go_sem]
   refine⟨by omega,by omega,by omega,by omega,?_⟩
   refine zK (fun h3=>?_) (fun h3=>?_)
   ·simp(disch:=omega)only[go_sem,h3]
    rw[decide_eq_false (fun e=>h3 (by rw[e]))]
    exact qz
   ·simp(disch:=omega)only[go_sem,h3]
    refine qa (i+1) [] ⟨by omega,?_⟩ (by show(lim a).length-(i+1)<(lim a).length-i;omega) rfl (by simp(disch:=omega)only[go_sem];try omega) (by simp(disch:=omega)only[go_sem])
    rw[jO (l:=lim a) (by omega),jO (l:=lim b) (by omega),ht,h3]
  ·simp(disch:=omega)only[go_sem,h2]
   have:i=(lim a).length:=by omega
   subst this
   have ht2:lim a=lim b:=by
    have h4:=List.take_of_length_le (l:=lim b) (i:=(lim a).length) (by omega)
    rw[List.take_length,h4]at ht
    exact ht
   rw[decide_eq_true (Qd ht2)]
   exact qz
theorem YT(s1:Bool)(m1:Nat)(s2:Bool)(m2:Nat)(l1:(lim m1).length≤2^40)(l2:(lim m2).length≤2^40):Con Tryz.prog 106 true [.ag [.v (.bool (s1)),.sl (lim (m1)).length (qh (lim (m1)))],.ag [.v (.bool (s2)),.sl (lim (m2)).length (qh (lim (m2)))]] [] (isA (.v (.bool ((s1==s2)&&decide (m1=m2))))):=by
 refine Con.of_w (rs:=[.tmp 4]) Tryz.func106 rfl Tryz.ntmps106 rfl ?_
 cases hs:(s1==s2)
 ·simp(disch:=omega)only[go_sem,hs]
  exact qz
 ·simp(disch:=omega)only[go_sem,hs]
  refine qo (ae5 m1 m2 l1 l2) ?_
  simp(disch:=omega)only[go_sem]
  exact qz
theorem J5(s1:Bool)(m1:Nat)(e1:Int)(s2:Bool)(m2:Nat)(e2:Int)(l1:(lim m1).length≤2^40)(l2:(lim m2).length≤2^40):Con Tryz.prog 32 true [.ag [.v (.bool (s1)),.sl (lim (m1)).length (qh (lim (m1))),.v (.int .i64 (e1))],.ag [.v (.bool (s2)),.sl (lim (m2)).length (qh (lim (m2))),.v (.int .i64 (e2))]] [] (isA (.v (.bool (decide (e1=e2)&&((s1==s2)&&decide (m1=m2)))))):=by
 cases he:decide (e1=e2)
 ·have he':¬e1=e2:=by simpa using he
  refine Con.of_w (rs:=[.tmp 4]) Tryz.func32 rfl Tryz.ntmps32 rfl ?_
  simp(disch:=omega)only[go_sem,he']
  exact qz
 ·refine Con.of_w (rs:=[.tmp 4]) Tryz.func32 rfl Tryz.ntmps32 rfl ?_
  simp(disch:=omega)only[go_sem,he]
  refine qo (YT s1 m1 s2 m2 l1 l2) ?_
  simp(disch:=omega)only[go_sem]
  exact qz
end Go.Ab
namespace Go.Ab
open Go Go.Proofs
theorem aaX(e:Int)(he: -3000≤e∧e≤3000):Con Tryz.prog 16 false [.v (.int .i64 1),.v (.int .i64 e)] [] (isA (.ag [.v (.bool (false)),.sl (lim (1)).length (qh (lim (1))),.v (.int .i64 (e))])):=by
 refine Con.frzA ?_
 have hm:oM 1=1:=by unfold oM;rw[abn]
 have hE:oE 1 e=e:=by unfold oE;rw[abn,if_neg (by decide)];simp
 have hf:jW 1 e=true:=by
  unfold jW jS;rw[hm,hE,Qc]
  simp only[Bool.and_eq_true,decide_eq_true_eq]
  exact⟨by decide,by omega,by omega⟩
 have c1:=aa9 false 1 e (by rw[Qc];decide) (by omega)
 rw[if_pos hf,hm,hE]at c1
 have c0:=Zh 1 (by omega)
 have e1:decide ((1:Int)<0)=false:=rfl
 have e2:(1:Int).natAbs=1:=rfl
 rw[e1,e2]at c0
 refine Con.of_aw Tryz.func16 rfl Tryz.ntmps16 (by simp) (by simp) (by simp) (W.sound ?_)
 show @W Tryz.prog 15 ⟨_⟩ ⟨fun x σ=>@q9 _ _ _ ⟨_⟩ _ ⟨_⟩ x σ⟩ _ _
 simp(disch:=omega)only[go_sem]
 refine qb (c0) ?_
 simp(disch:=omega)only[go_sem]
 refine qb (c1) ?_
 simp(disch:=omega)only[go_sem]
 refine qY (by simp(disch:=omega)only[go_sem]) ?_
 show qN _ 6 _=_
 rfl
theorem aJm:tz 1024=10:=QP (a:=0) (by decide)
theorem aYO:(ExV.can ⟨false,1024, -10⟩)=⟨false,1,0⟩:=by
 show(⟨oS false 1024,oM 1024,oE 1024 (-10)⟩:ExV)=_
 unfold oS oM oE
 rw[aJm];rfl
theorem atl:(ExV.can ⟨false,1, -14⟩)=⟨false,1, -14⟩:=by
 show(⟨oS false 1,oM 1,oE 1 (-14)⟩:ExV)=_
 unfold oS oM oE
 rw[abn];rfl
theorem YL(x:ExV)(a:Nat)(s:Bool)(e:Int)(h:x.can=⟨s,a,e⟩)(h1:(lim a).length≤100)(h2: -3000≤e∧e≤3000):x.fit=true:=by
 have e1:oM x.m=a:=congrArg ExV.m h
 have e2:oE x.m x.e=e:=congrArg ExV.e h
 unfold ExV.fit jW jS
 rw[e1,e2]
 simp only[Bool.and_eq_true,decide_eq_true_eq]
 exact⟨h1,h2⟩
theorem afq(n:Nat)(h1:n=1):Con Tryz.prog 65 false [.ag [.v (.int .i64 (n)),.sl ([ex0]).length (qg ExV.cs ([ex0]))],.v (.int .i64 (-10))] [] (isA (.tu [.ag [.v (.int .i64 (n)),.sl ([ex1]).length (qg ExV.cs ([ex1]))],.ag [.v (.bool (false)),.sl (lim (1)).length (qh (lim (1))),.v (.int .i64 (-14))],.v (.bool true)])):=by
 have c:=afp n [ex0] (-10) aIW (by omega) (by rw[h1];rfl) (by omega) (aaV n h1) (as2 n h1) (by rw[h1];decide+kernel) (by decide+kernel) (by
  rw[show aIW=[⟨⟨false,16383, -14⟩,⟨false,16385, -14⟩⟩] by decide+kernel,List.all_cons,List.all_nil]
  have t1:tz 16383=0:=afG rfl
  have t2:tz 16385=0:=afG rfl
  have f1:ExV.fit ⟨false,16383, -14⟩=true:=YL _ 16383 false (-14) (by show(⟨oS false 16383,oM 16383,oE 16383 (-14)⟩:ExV)=_;unfold oS oM oE;rw[t1];rfl) (by have:=qI (m:=16383) (B:=20) (zD.2 (by decide));omega) (by omega)
  have f2:ExV.fit ⟨false,16385, -14⟩=true:=YL _ 16385 false (-14) (by show(⟨oS false 16385,oM 16385,oE 16385 (-14)⟩:ExV)=_;unfold oS oM oE;rw[t2];rfl) (by have:=qI (m:=16385) (B:=20) (zD.2 (by decide));omega) (by omega)
  unfold SpV.fit
  rw[f1,f2];rfl)
 have eX:af5 n aIW (-10)=[⟨false,1024, -10⟩]:=by rw[h1];decide+kernel
 have eF:jU n aIW (-10)=⟨false,1, -14⟩:=by rw[h1];decide+kernel
 rw[eX,eF]at c
 have f1:ExV.fit ⟨false,1024, -10⟩=true:=YL _ 1 false 0 aYO (by rw[Qc];decide) (by omega)
 have f2:ExV.fit ⟨false,1, -14⟩=true:=YL _ 1 false (-14) atl (by rw[Qc];decide) (by omega)
 rw[List.all_cons,List.all_nil,f1,f2,if_pos (by rfl),List.map_cons,List.map_nil,aYO,atl]at c
 exact c
set_option maxRecDepth 100000 in
theorem ata:Con Tryz.prog 14 true [] [] (isA (.v (.bool true))):=by
 obtain⟨n,hn⟩:∃n:Nat,n=1:=⟨1,rfl⟩
 have c:=afq n hn
 have en:(n:Int)=1:=by omega
 have hrow:qg ExV.cs [ex0]=[.v (.bool false),.sl 0 [],.v (.int .i64 0)]:=by
  simp[qg,ExV.cs,ex0,qt,qh]
 rw[en,hrow]at c
 have hr1:qg ExV.cs [ex1]=[.v (.bool false),.sl (lim 1).length (qh (lim 1)),.v (.int .i64 0)]:=by
  simp[qg,ExV.cs,ex1]
 rw[hr1]at c
 have cd1:=aaX 0 (by omega)
 have cd2:=aaX (-9) (by omega)
 have csd:=J5 false 1 0 false 1 0 (by rw[Qc];decide) (by rw[Qc];decide)
 rw[show(decide ((0:Int)=0)&&((false==false)&&decide ((1:Nat)=1)))=true from rfl]at csd
 have hb:∀e:Int, -3000≤e∧e≤3000→dyB false (lim 1) e=true:=fun e he=>by
  rw[Qc];unfold dyB
  rw[show zS false [1]=true by decide,decide_eq_true he.1,decide_eq_true he.2];rfl
 have ccm:=alL false 1 (-14) false 1 (-9) (hb _ (by omega)) (hb _ (by omega))
 have hle:zQ (dv 3000 false 1 (-14)) (dv 3000 false 1 (-9))≤0:=(ate _ _).1.2 (by
  unfold dv sv
  rw[if_neg (by simp),show(-9+((3000:Nat):Int)).toNat=(-14+((3000:Nat):Int)).toNat+5 by rfl,Int.pow_add]
  have:(0:Int)<2^(-14+((3000:Nat):Int)).toNat:=Int.pow_pos (by omega)
  generalize (2:Int)^(-14+((3000:Nat):Int)).toNat=p at*
  omega)
 have q3:decide (zQ (dv 3000 false 1 (-14)) (dv 3000 false 1 (-9))≤0)=true:=decide_eq_true hle
 generalize zQ (dv 3000 false 1 (-14)) (dv 3000 false 1 (-9))=C at*
 refine Con.of_aw Tryz.func14 rfl Tryz.ntmps14 (by simp) (by simp) (by simp)
  (AW.seqLe (E:=[(0,.v (.bool false))]) (H:=[]) (W.sound ?_) (AW.regSplit (E:=[(0,.v (.bool false)),(7,.ag [.v (.int .i64 1),.sl 1 [.v (.bool false),.sl 0 [],.v (.int .i64 0)]])]) (H:=[]) 3 (by simp only[List.take_succ_cons,List.take_zero];rfl) (by simp only[List.drop_succ_cons,List.drop_zero];rfl) ?_ ?_))
 ·show @W Tryz.prog 38 ⟨_⟩ ⟨_⟩ _ _
  simp(disch:=omega)only[go_sem]
  exact Le.lst [] _ _ rfl (by simp(disch:=omega)only[go_sem]) (by simp(disch:=omega)only[go_sem])
 ·simp(disch:=omega)only[go_sem]
  exact(Le.nilC 80000000 1 (zo:=3) (cs:=[.v (.bool false),.v (.slice none 0 0),.v (.int .i64 0)]) (by simp(disch:=omega)only[go_sem]) rfl).trans ((Le.frz 80000000 (z:=3) (ks:=[.v (.bool false),.sl 0 [],.v (.int .i64 0)]) (by simp(disch:=omega)only[go_sem,List.set_cons_succ,List.set_cons_zero]) rfl (by simp(disch:=omega)only[go_sem])).trans (Le.lst [] _ _ rfl (by simp(disch:=omega)only[go_sem]) (by simp(disch:=omega)only[go_sem])))
 show @Ch Tryz.prog 38 ⟨_⟩ ⟨_⟩ ⟨fun σ=>@W Tryz.prog 38 ⟨_⟩ ⟨fun x σ=>@q9 _ _ _ ⟨_⟩ _ ⟨_⟩ x σ⟩ σ.env σ.hp⟩ _ _
 simp(disch:=omega)only[go_sem]
 refine qb (c) ?_
 simp(disch:=omega)only[go_sem]
 refine qm rfl [⟨0,[],[]⟩,⟨1,[],[]⟩,⟨2,[],[]⟩,⟨3,[],[]⟩,⟨4,[],[]⟩,⟨5,[],[]⟩,⟨6,[],[]⟩,⟨7,[],[]⟩,⟨8,[],[]⟩,⟨9,[],[]⟩,⟨10,[],[]⟩,⟨11,[],[]⟩,⟨12,[],[]⟩,⟨13,[],[]⟩,⟨14,[],[]⟩,⟨15,[],[]⟩,⟨16,[],[]⟩,⟨17,[14,16],[]⟩,⟨18,[],[]⟩,⟨19,[],[]⟩,⟨20,[],[]⟩,⟨21,[],[]⟩,⟨22,[21],[]⟩,⟨23,[],[]⟩,⟨24,[],[]⟩,⟨25,[],[]⟩,⟨26,[],[]⟩] (by kernel_rfl) ?_
 simp(disch:=omega)only[go_sem]
 refine qb (cd1) ?_
 simp(disch:=omega)only[go_sem]
 refine qo (csd) ?_
 simp(disch:=omega)only[go_sem]
 refine qb (cd2) ?_
 simp(disch:=omega)only[go_sem]
 refine qo (ccm) ?_
 simp(disch:=omega)only[go_sem]
 simp(disch:=omega)only[go_sem,q3]
 exact qz
end Go.Ab
namespace Go.Ab
theorem aQi{K:Nat}{s:Bool}{m:Nat}{e:Int}{s':Bool}{m':Nat}{e':Int}(he: -(K:Int)≤e)(he': -(K:Int)≤e')(h:dv K s m e=dv K s' m' e'):oS s m=oS s' m'∧oM m=oM m'∧oE m e=oE m' e':=by
 by_cases h0:m=0
 ·have h0':m'=0:=by rw[h0,Q4]at h;exact ak8.1 h.symm
  rw[h0,h0'];exact⟨rfl,rfl,rfl⟩
 ·obtain⟨rfl,hM,hE,h0'⟩:=aYy h0 he he' h
  refine⟨?_,hM,hE⟩
  unfold oS;rw[if_neg h0,if_neg h0']
end Go.Ab
namespace Go.Ab
open Go Go.Proofs
def ExV.val(K:Nat)(x:ExV):Int:=dv K x.s x.m x.e
theorem Qu{x:ExV}(h:x.ok=true):(-3000≤x.e∧x.e≤3000)∧bl x.m≤1600∧(lim x.m).length≤100∧(x.m=0→x.s=false∧x.e=0)∧(x.m % 2=1∨x.m=0):=by
 obtain⟨m,e1,h1,h2,h3,h4,h5⟩:=Jj h
 obtain rfl:=Qd e1
 exact⟨h3,h2,h1,fun h0=>⟨h5 h0,by omega⟩,by omega⟩
theorem aIJ{x:ExV}(h:x.ok=true):x.can=x:=by
 obtain⟨h1,h2,h3,h4,h5⟩:=Qu h
 show(⟨oS x.s x.m,oM x.m,oE x.m x.e⟩:ExV)=x
 obtain⟨s,m,e⟩:=x
 dsimp only at*
 rcases h5 with o|h0
 ·have h0:m≠0:=by omega
  have ht:=afG o
  have g1:oS s m=s:=by unfold oS;rw[if_neg h0]
  have g2:oM m=m:=by have:=@aIL m;rw[ht]at this;simpa using this
  have g3:oE m e=e:=by unfold oE;rw[if_neg h0,ht];simp
  rw[g1,g2,g3]
 ·obtain⟨rfl,rfl⟩:=h4 h0
  rw[h0,Z2];rfl
theorem aI9{x:ExV}(h:x.fit=true):x.can.ok=true:=by
 show dyB (oS x.s x.m) (lim (oM x.m)) (oE x.m x.e)=true
 rw[QF];exact h
theorem aaJ:ex0.ok=true:=by show dyB false (lim 0) 0=true;rw[qt];decide
theorem atk{K:Nat}{x:ExV}(h: -(K:Int)≤x.e):x.can.val K=x.val K:=by
 show dv K (oS x.s x.m) (oM x.m) (oE x.m x.e)=_
 rw[aQh h,bhP];rfl
theorem Qt{K:Nat}{x y:ExV}(h1: -(K:Int)≤x.e)(h2: -(K:Int)≤y.e):(x.plus y).val K=x.val K+y.val K:=bii h1 h2
theorem Ql{K K':Nat}{x y:ExV}(h1: -(K:Int)≤x.e)(h2: -(K':Int)≤y.e):(x.times y).val (K+K')=x.val K*y.val K':=by
 show dv (K+K') ((x.s != y.s)&&decide (x.m*y.m≠0)) (x.m*y.m) (x.e+y.e)=_
 rw[aI6];exact aYx h1 h2
theorem arw{K:Nat}{x:ExV}:x.neg.val K= -x.val K:=by
 show dv K ((!x.s)&&decide (x.m≠0)) x.m x.e= -dv K x.s x.m x.e
 rw[aI6];unfold dv;rw[aSm,Int.neg_mul]
theorem aRj{K:Nat}{x:ExV}:x.abs.val K=(x.val K).natAbs:=by
 show dv K false x.m x.e=((dv K x.s x.m x.e).natAbs:Int)
 unfold dv sv
 rw[Int.natAbs_mul]
 have hp:0≤(2:Int)^(x.e+(K:Int)).toNat:=Int.le_of_lt (Int.pow_pos (by omega))
 have e:(((2:Int)^(x.e+(K:Int)).toNat).natAbs:Int)=2^(x.e+(K:Int)).toNat:=by omega
 rw[Int.natCast_mul,e]
 cases x.s<;>simp
theorem aRL{K j:Nat}{x:ExV}(h: -(K:Int)≤x.e):x.val (K+j)=x.val K*2^j:=by
 unfold ExV.val dv
 have:(x.e+((K+j:Nat):Int)).toNat=(x.e+(K:Int)).toNat+j:=by omega
 rw[this,Int.pow_add,Int.mul_assoc]
theorem aaj{K:Int}{x y:ExV}(h1:K≤x.e)(h2:K≤y.e):K≤(x.plus y).e:=QK h1 h2
theorem aQE(x:ExV):x.can.ok=x.fit:=QF x.s x.m x.e
def ExV.tel(x:ExV):ExV:=if x.fit=true then x.can else ex0
theorem afM(x:ExV):x.tel.ok=true:=by
 unfold ExV.tel;split
 ·rename_i h;exact aI9 h
 ·exact aaJ
theorem aNa{x:ExV}(h:x.fit=true):x.tel=x.can:=if_pos h
theorem asD(x y:ExV)(hx:x.ok=true)(hy:y.ok=true):Con Tryz.prog 32 true [.ag [.v (.bool (x).s),.sl (lim (x).m).length (qh (lim (x).m)),.v (.int .i64 (x).e)],.ag [.v (.bool (y).s),.sl (lim (y).m).length (qh (lim (y).m)),.v (.int .i64 (y).e)]] [] (isA (.v (.bool (decide (x=y))))):=by
 have c:=J5 x.s x.m x.e y.s y.m y.e (by have:=(Qu hx).2.2.1;omega) (by have:=(Qu hy).2.2.1;omega)
 have e:(decide (x.e=y.e)&&((x.s==y.s)&&decide (x.m=y.m)))=decide (x=y):=by
  obtain⟨s,m,e⟩:=x
  obtain⟨t,n,f⟩:=y
  rw[Bool.eq_iff_iff]
  simp only[Bool.and_eq_true,decide_eq_true_eq,beq_iff_eq,ExV.mk.injEq]
  exact⟨fun⟨a,b,c⟩=>⟨b,c,a⟩,fun⟨a,b,c⟩=>⟨c,a,b⟩⟩
 rw[e]at c;exact c
/-! ### Floats that are numbers-/
def flD(F:FlV):ExV:=⟨oS (xS F.k F.s) F.m.toNat,oM F.m.toNat,oE F.m.toNat F.e⟩
end Go.Ab
namespace Go.Ab
open Go
section
variable {P:Program}{f:FuncId}{args:List AV}{bs:List Ob}{post:AV→List Ob→List Ob→Prop}
theorem Con.frzB(h:Con P f false args bs post)(hm:∀r hs bs',post r hs bs'→(∀ob∈bs',ob.men fun _=>False)∧∀ob∈hs,ob.men fun _=>False):
  Con P f false args bs (fun r' hs' bs'=>hs'=[]∧∃r hs,post r hs bs'∧r'=qN (rhp hs []) 6 r):=by
 intro R ι w vs h1 h2 h3 h4 h5
 refine(h R ι w vs h1 h2 h3 h4 h5).mono ?_
 rintro e w' ⟨x,r,hs,bs',R',ι',he,hp,hF⟩
 obtain⟨mB,mH⟩:=hm _ _ _ hp
 have hfree:∀m,10000000≤m→rhp hs [] m=.free:=fun m hm=>by simp[rhp,hm]
 have hlow:∀m,m<10000000→rhp hs [] m=rhp hs bs' m:=fun m hm=>by unfold rhp;rw[if_neg (by omega),if_neg (by omega)]
 have hnil:∀m,m<10000000→rhp [] bs' m=.free:=fun m hm=>by unfold rhp;rw[if_neg (by omega)];simp
 have hhi:∀m,10000000≤m→rhp [] bs' m=rhp hs bs' m:=fun m hm=>by unfold rhp;rw[if_pos hm,if_pos hm]
 have hsm:∀{m z cs},rhp hs [] m=.own z cs→m<10000000∧rhp hs bs' m=.own z cs:=by
  intro m z cs e
  rcases Nat.lt_or_ge m 10000000 with hm|hm
  ·exact⟨hm,by rw[←hlow m hm];exact e⟩
  ·rw[hfree m hm]at e;cases e
 have hbg:∀{m z cs},rhp [] bs' m=.own z cs→10000000≤m∧rhp hs bs' m=.own z cs:=by
  intro m z cs e
  rcases Nat.lt_or_ge m 10000000 with hm|hm
  ·rw[hnil m hm]at e;cases e
  ·exact⟨hm,by rw[←hhi m hm];exact e⟩
 have hget:∀(l:List Ob) (k z:Nat) (cs:List AV),(∀ob∈l,ob.men fun _=>False)→l.getD k .free=.own z cs→AllL (fun _=>False) cs:=by
  intro l k z cs hl e
  rw[List.getD_eq_getElem?_getD]at e
  rcases Nat.lt_or_ge k l.length with hk|hk
  ·rw[List.getElem?_eq_getElem hk]at e
   have:=hl _ (List.getElem_mem hk)
   simp only[Option.getD_some]at e
   rw[e]at this;exact this
  ·rw[List.getElem?_eq_none hk]at e;cases e
 have hO:HpOk R' ι' w' (rhp hs []):=by
  refine⟨fun m=>?_,fun m z cs B e hB hr=>hF.nR m z cs B (hsm e).2 hB (.inr hr),fun m m' z z' cs cs' B B' e e'=>hF.inj m m' z z' cs cs' B B' (hsm e).2 (hsm e').2,fun m z cs e=>?_⟩
  ·rcases Nat.lt_or_ge m 10000000 with hm|hm
   ·rw[hlow m hm];exact hF.okF m hm
   ·rw[hfree m hm];trivial
  ·have h6:=(hsm e).1
   unfold rhp at e
   rw[if_neg (by omega)]at e
   exact(hget hs m z cs mH e).mono fun _ h=>h.elim
 have hown:∀{m z cs B},rhp hs [] m=.own z cs→ι' m=some B→w.heap.size≤B.b∧B.b<w'.heap.size:=by
  intro m z cs B e hB
  obtain⟨hm,e⟩:=hsm e
  refine⟨hF.fresh m z cs B hm e hB,?_⟩
  have:=hF.okF m hm
  rw[e,hB]at this
  obtain⟨c,T,lo,hi,g1,_⟩:=this
  rcases Nat.lt_or_ge B.b w'.heap.size with h'|h'
  ·exact h'
  ·simp[Array.getElem?_eq_none h']at g1
 refine⟨x,qN (rhp hs []) 6 r,[],bs',fun b=>R' b∨at1 (rhp hs []) ι' b,ι',he,⟨rfl,r,hs,hp,rfl⟩,?_⟩
 refine⟨hF.ext,fun b hb=>?_,fun b hb=>?_,.fr _ _ (zO hO (fun _ h=>.inl h) (fun _ h=>.inr h) 6 hF.rep),js 6 r,fun m hm=>?_,fun m hm=>?_,fun m z cs B e hB=>?_,
  fun m m' z z' cs cs' B B' e e'=>hF.inj m m' z z' cs cs' B B' (hbg e).2 (hbg e').2,fun m z cs e=>?_,fun m z cs B hm e=>?_,hF.len,hF.bown,hF.bnf⟩
 ·rcases hb with hb|⟨m,z,cs,B,e,hB,rfl⟩
  ·exact hF.rlt b hb
  ·exact(hown e hB).2
 ·rcases hb with hb|⟨m,z,cs,B,e,hB,rfl⟩
  ·exact hF.rnew b hb
  ·exact .inl (hown e hB).1
 ·rw[hnil m hm];trivial
 ·rw[hhi m hm]
  exact(hF.okB m hm).mono (fun _ _=>rfl) (fun _ _ _ _ _=>rfl) (fun b hb=>hb.elim .inl fun h=>.inr (.inl h)) (fun z cs e=>AllL.of_mem fun a _=>AV.all_true (fun _=>rfl) a)
 ·obtain⟨hm,e⟩:=hbg e
  have h6:=hF.nR m z cs B e hB
  rintro(hr|hr|⟨m',z',cs',B',e',hB',hb⟩)
  ·exact h6 (.inl hr)
  ·exact h6 (.inr hr)
  ·obtain⟨hm',e'⟩:=hsm e'
   have:=hF.inj m' m z' z cs' cs B' B e' e hB' hB hb
   omega
 ·have h6:=(hbg e).1
  unfold rhp at e
  rw[if_pos h6]at e
  exact(hget bs' _ z cs mB e).mono fun _ h=>h.elim
 ·rw[hnil m hm]at e;cases e
end
end Go.Ab
namespace Go.Ab
open Go
structure IvV where
 lo:DyV
 hi:DyV
def IvV.cs(x:IvV):List AV:=x.lo.cs++x.hi.cs
def dy0:DyV:=⟨false,[],0⟩
def iv0:IvV:=⟨dy0,dy0⟩
theorem aTZ(x:IvV):x.cs.length=6:=rfl
theorem aIU{ρ:Nat→Nat}(x:IvV):zU ρ x.cs=x.cs:=rfl
theorem arW{hp:Nat→Ob}{k:Nat}(x:IvV):x.cs.map (qN hp (k+1))=x.cs:=rfl
theorem aIV{p:Nat→Prop}(x:IvV):AllL p x.cs:=by simp[IvV.cs,DyV.cs,AllL,AV.All]
theorem aO2{l:List IvV}:(qg IvV.cs l).length=l.length*6:=ye aTZ
theorem aO1{ρ:Nat→Nat}{l:List IvV}:zU ρ (qg IvV.cs l)=qg IvV.cs l:=ZU aIU
theorem aFN{hp:Nat→Ob}{k:Nat}{l:List IvV}:(qg IvV.cs l).map (qN hp (k+1))=qg IvV.cs l:=Qr arW
theorem aO3{p:Nat→Prop}{l:List IvV}:AllL p (qg IvV.cs l)=True:=eq_true (ZV aIV)
theorem aFO{p:Nat→Prop}{x:IvV}:AllL p x.cs=True:=eq_true (aIV x)
attribute [go_sem] aO2 aO1 aFN aO3 aFO aIU arW
end Go.Ab
namespace Go.Ab
open Go Go.Proofs
section
variable (g:Nat)(p:IvV→Bool)
end
end Go.Ab
namespace Go.Ab
open Go Go.Proofs
/-! ### Intervals that were drawn,and those that are valid-/
def DyV.ex(d:DyV):ExV:=⟨d.s,(vl d.xs).toNat,d.e⟩
def ExV.dyv(x:ExV):DyV:=⟨x.s,lim x.m,x.e⟩
theorem bhO(x:ExV):x.dyv.ex=x:=by unfold ExV.dyv DyV.ex;rw[zi,Int.toNat_natCast]
theorem aYp{d:DyV}(h:d.ok=true):d=d.ex.dyv∧d.ex.ok=true:=by
 obtain⟨s,xs,e⟩:=d
 obtain⟨m,hm, -⟩:=Jj (show dyB s xs e=true from h)
 subst hm
 have e1:(DyV.mk s (lim m) e).ex=⟨s,m,e⟩:=bhO ⟨s,m,e⟩
 rw[e1]
 exact⟨rfl,h⟩
def ivB(v:IvV):Bool:=v.lo.ok&&(v.hi.ok&&decide (v.lo.ex.val 3000≤v.hi.ex.val 3000))
def IvV.sp(v:IvV):SpV:=⟨v.lo.ex,v.hi.ex⟩
def SpV.iv(s:SpV):IvV:=⟨s.lo.dyv,s.hi.dyv⟩
def SpV.ok(s:SpV):Bool:=s.lo.ok&&(s.hi.ok&&decide (s.lo.val 3000≤s.hi.val 3000))
def blB(v:IvV):Prop:=v.lo.xs.length≤1000∧v.hi.xs.length≤1000
def aOO(s t:SpV):SpV:=⟨zB [s.lo,t.lo],jF [s.hi,t.hi]⟩
def bk1(s t:SpV):SpV:=⟨jF [s.lo,t.lo],zB [s.hi,t.hi]⟩
theorem aTx{x:ExV}(h:x.ok=true):x.fit=true:=by
 show jW x.m x.e=true
 rw[←QF x.s x.m x.e]
 exact(show x.can.ok=true by rw[aIJ h];exact h)
def SpV.tel(s:SpV):SpV:=if s.fit=true then s.can else sp0
def bkZ(s t:SpV):SpV:=if(aOO s t).lo.val 3000≤(aOO s t).hi.val 3000 then aOO s t else sp0
def blr(s:SpV)(x:ExV):Bool:=decide (s.lo.val 3000≤x.val 3000)&&decide (x.val 3000≤s.hi.val 3000)
end Go.Ab
namespace Go.Ab
open Go Go.Proofs
/-! ### Matrices that were drawn,and those that are valid-/
structure matV(n:Nat)(L:List ExV):Prop where
 n1:1≤n
 n4:n≤4
 len:L.length=n*n
 ok:∀x∈L,x.ok=true
theorem arD{k:Int}{M:List DyV}(h:JC k M=true):∃(n:Nat) (L:List ExV),k=n∧M=L.map ExV.dyv∧matV n L:=by
 simp only[JC,Bool.and_eq_true,decide_eq_true_eq,List.all_eq_true]at h
 obtain⟨⟨h1,h2⟩,h3,h4⟩:=h
 obtain⟨n,rfl⟩:=Int.eq_ofNat_of_zero_le (show 0≤k by omega)
 have hm:M=(M.map DyV.ex).map ExV.dyv:=by
  rw[List.map_map]
  conv=>lhs;rw[←List.map_id M]
  exact List.map_congr_left fun d hd=>(aYp (h4 d hd)).1
 refine⟨n,M.map DyV.ex,rfl,hm,by omega,by omega,?_,fun x hx=>?_⟩
 ·rw[List.length_map];exact_mod_cast h3
 ·obtain⟨d,hd,rfl⟩:=List.mem_map.1 hx
  exact(aYp (h4 d hd)).2
theorem yI(L:List ExV):qg DyV.cs (L.map ExV.dyv)=qg ExV.cs L:=by unfold qg;rw[List.map_map];rfl
theorem matV.bd{n:Nat}{L:List ExV}(h:matV n L):gbd (-3000) 4600 L:=fun x hx=>ark (h.ok x hx)
theorem matV.bd4{n:Nat}{L:List ExV}(h:matV n L):gbd (-400000) 400000 L:=fun x hx=>(ark (h.ok x hx)).mono (by omega) (by omega)
theorem matV.bd3{n:Nat}{L:List ExV}(h:matV n L):gbd (-190000) 190000 L:=fun x hx=>(ark (h.ok x hx)).mono (by omega) (by omega)
theorem matV.l16{n:Nat}{L:List ExV}(h:matV n L):L.length≤16:=by rw[h.len];exact yW h.n4
theorem jy(n:Nat)(L:List ExV)(h:matV n L):Con Tryz.prog 73 true [.ag [.v (.int .i64 (n)),.sl (L).length (qg ExV.cs (L))]] [] (isA (.v (.bool true))):=by
 have c:=Yd n L (by have:=h.l16;omega) (fun x hx=>by have:=(Qu (h.ok x hx)).2.2.1;omega)
 rw[show aIR n L=true by
  unfold aIR
  simp only[Bool.and_eq_true,decide_eq_true_eq,List.all_eq_true]
  exact⟨⟨by have:=h.n1;omega,by have:=h.n4;omega⟩,by rw[h.len,Int.natCast_mul],h.ok⟩]at c
 exact c
theorem yU(k:Int)(M:List DyV)(h1:M.length≤16)(h2:∀d∈M,d.xs.length≤200):Con Tryz.prog 73 true [.ag [.v (.int .i64 k),.sl M.length (qg DyV.cs M)]] [] (isA (.v (.bool (JC k M)))):=
 aa8 k M (by omega) fun d hd=>by have:=h2 d hd;omega
theorem aQw(x:ExV)(hx:x.bd (-400000) 400000):Con Tryz.prog 92 false [.ag [.v (.bool (x).s),.sl (lim (x).m).length (qh (lim (x).m)),.v (.int .i64 (x).e)]] [] (isA (.tu [.ag [.v (.bool (x.tel).s),.sl (lim (x.tel).m).length (qh (lim (x.tel).m)),.v (.int .i64 (x.tel).e)],.v (.bool x.fit)])):=by
 have c:=Js x hx
 unfold ExV.tel
 cases hf:x.fit<;>rw[hf]at c<;>exact c
def gN(n:Nat)(l:List ExV):Nat:=if l.all ExV.fit=true then n else 0
def gT(l:List ExV):List ExV:=if l.all ExV.fit=true then l.map ExV.can else []
theorem agh(n:Nat)(l:List ExV)(hl:l.length≤1000)(hb:gbd (-400000) 400000 l):Con Tryz.prog 77 false [.ag [.v (.int .i64 (n)),.sl (l).length (qg ExV.cs (l))]] [] (isA (.tu [.ag [.v (.int .i64 (gN n l)),.sl (gT l).length (qg ExV.cs (gT l))],.v (.bool (l.all ExV.fit))])):=by
 have c:=asO n l hl hb
 unfold gN gT
 cases h:l.all ExV.fit
 ·rw[h,if_neg (by simp)]at c
  rw[if_neg (by simp),if_neg (by simp)]
  exact c
 ·rw[h,if_pos rfl]at c
  rw[if_pos rfl,if_pos rfl,List.length_map]
  exact c
theorem bf7{n:Nat}{l:List ExV}(h1:1≤n)(h4:n≤4)(hl:l.length=n*n)(h:l.all ExV.fit=true):gN n l=n∧gT l=l.map ExV.can∧matV n (l.map ExV.can):=by
 refine⟨if_pos h,if_pos h,h1,h4,by rw[List.length_map];exact hl,fun x hx=>?_⟩
 obtain⟨y,hy,rfl⟩:=List.mem_map.1 hx
 exact aI9 (List.all_eq_true.1 h y hy)
theorem aa4(n n':Nat)(L L':List ExV)(h:matV n L)(h':matV n' L'):Con Tryz.prog 97 true [.ag [.v (.int .i64 (n)),.sl (L).length (qg ExV.cs (L))],.ag [.v (.int .i64 (n')),.sl (L').length (qg ExV.cs (L'))]] [] (isA (.v (.bool (decide (n=n'))))):=by
 refine Con.of_aw Tryz.func97 rfl Tryz.ntmps97 (by simp) (by simp) (by simp) (W.sound ?_)
 show @W Tryz.prog 18 ⟨_⟩ ⟨fun x σ=>@q9 _ _ _ ⟨_⟩ _ ⟨_⟩ x σ⟩ _ _
 simp(disch:=omega)only[go_sem]
 refine qo (jy n L h) ?_
 simp(disch:=omega)only[go_sem]
 refine qo (jy n' L' h') ?_
 simp(disch:=omega)only[go_sem]
 refine qC (by simp(disch:=omega)only[go_sem]) (by simp(disch:=omega)only[go_sem]) ⟨?_,rfl,rfl⟩
 show AV.v (.bool _)=AV.v (.bool _)
 congr 2
 exact decide_eq_decide.2 ⟨fun h=>by omega,fun h=>by omega⟩
def aQ8(k:Int)(M:List DyV)(k':Int)(M':List DyV):Bool:=JC k M&&(JC k' M'&&decide (k=k'))
theorem aa5(k k':Int)(M M':List DyV)(h1:M.length≤16)(h2:∀d∈M,d.xs.length≤200)(h3:M'.length≤16)(h4:∀d∈M',d.xs.length≤200):
  Con Tryz.prog 97 true [.ag [.v (.int .i64 k),.sl M.length (qg DyV.cs M)],.ag [.v (.int .i64 k'),.sl M'.length (qg DyV.cs M')]] [] (isA (.v (.bool (aQ8 k M k' M')))):=by
 unfold aQ8
 have c1:=yU k M h1 h2
 have c2:=yU k' M' h3 h4
 generalize JC k M=b1 at*
 generalize JC k' M'=b2 at*
 cases b1
 ·refine Con.of_w (rs:=[.tmp 4]) Tryz.func97 rfl Tryz.ntmps97 rfl ?_
  simp(disch:=omega)only[go_sem]
  refine qo (c1) ?_
  simp(disch:=omega)only[go_sem]
  exact qz
 cases b2
 ·refine Con.of_w (rs:=[.tmp 4]) Tryz.func97 rfl Tryz.ntmps97 rfl ?_
  simp(disch:=omega)only[go_sem]
  refine qo (c1) ?_
  simp(disch:=omega)only[go_sem]
  refine qo (c2) ?_
  simp(disch:=omega)only[go_sem]
  exact qz
 ·refine Con.of_w (rs:=[.tmp 4]) Tryz.func97 rfl Tryz.ntmps97 rfl ?_
  simp(disch:=omega)only[go_sem]
  refine qo (c1) ?_
  simp(disch:=omega)only[go_sem]
  refine qo (c2) ?_
  simp(disch:=omega)only[go_sem]
  exact qz
theorem ak1{n:Nat}{L L':List ExV}(h:matV n L)(h':matV n L'):gbd (-6000) 9204 (zv n L L'):=
 aT6 fun i j hi hj=>(asr (l1:= -3000) (h1:=4600) (l2:= -3000) (h2:=4600) hi hj (Nat.le_refl n) h.len h'.len h.bd h'.bd (by omega)).mono (by omega) (by have:=h.n4;omega)
theorem afo(n:Nat)(L L':List ExV)(h:matV n L)(h':matV n L'):Con Tryz.prog 28 false [.ag [.v (.int .i64 (n)),.sl (L).length (qg ExV.cs (L))],.ag [.v (.int .i64 (n)),.sl (L').length (qg ExV.cs (L'))]] [] (isA (.tu [.ag [.v (.int .i64 (gN n (zv n L L'))),.sl (gT (zv n L L')).length (qg ExV.cs (gT (zv n L L')))],.v (.bool ((zv n L L').all ExV.fit))])):=by
 refine Con.frzA ?_
 have ca:=aa4 n n L L' h h'
 rw[decide_eq_true rfl]at ca
 have co:=alz n L L' h.n4 h.len h'.len h.bd3 h'.bd3
 have hl:(zv n L L').length=n*n:=yw
 have cm:=agh n (zv n L L') (by have:=yW h.n4;omega) (yh (ak1 h h') (by omega) (by omega))
 generalize zv n L L'=y at*
 refine Con.of_w (rs:=[.cell 4 25,.tmp 5]) Tryz.func28 rfl Tryz.ntmps28 rfl ?_
 simp(disch:=omega)only[go_sem]
 refine qo (ca) ?_
 simp(disch:=omega)only[go_sem]
 refine qm rfl [⟨0,[],[]⟩,⟨2,[0],[]⟩,⟨1,[2],[]⟩,⟨3,[],[]⟩,⟨4,[],[]⟩,⟨5,[],[]⟩,⟨6,[],[]⟩,⟨7,[],[]⟩,⟨8,[],[]⟩,⟨9,[],[]⟩] (by kernel_rfl) ?_
 simp(disch:=omega)only[go_sem]
 refine qb (zC n L (by have:=h.l16;omega)) ?_
 simp(disch:=omega)only[go_sem]
 refine qb (zC n L' (by have:=h'.l16;omega)) ?_
 simp(disch:=omega)only[go_sem]
 refine qb (co) ?_
 simp(disch:=omega)only[go_sem]
 refine qb (cm) ?_
 simp(disch:=omega)only[go_sem]
 exact qq
theorem QI(k k':Int)(M M':List DyV)(h1:M.length≤16)(h2:∀d∈M,d.xs.length≤200)(h3:M'.length≤16)(h4:∀d∈M',d.xs.length≤200)(h:aQ8 k M k' M'=false):
  Con Tryz.prog 28 false [.ag [.v (.int .i64 k),.sl M.length (qg DyV.cs M)],.ag [.v (.int .i64 k'),.sl M'.length (qg DyV.cs M')]] [] (isA (.tu [.ag [.v (.int .i64 0),.sl 0 []],.v (.bool false)])):=by
 refine Con.frzA ?_
 have ca:=aa5 k k' M M' h1 h2 h3 h4
 rw[h]at ca
 refine Con.of_w (rs:=[.cell 4 25,.tmp 5]) Tryz.func28 rfl Tryz.ntmps28 rfl ?_
 simp(disch:=omega)only[go_sem]
 refine qo (ca) ?_
 simp(disch:=omega)only[go_sem]
 exact qq
end Go.Ab
namespace Go.Ab
/-! ### Sums and greatest ones of whole numbers-/
def qH(f:Nat→Int):Nat→Int
 |0=>0
 |k+1=>qH f k+f k
def aOP(f:Nat→Int):Nat→Int
 |0=>0
 |k+1=>if aOP f k<f k then f k else aOP f k
theorem qR{f g:Nat→Int}:∀{k:Nat},(∀i,i<k→f i=g i)→qH f k=qH g k
 |0,_=>rfl
 |k+1,h=>by rw[qH,qH,qR fun i hi=>h i (by omega),h k (by omega)]
theorem ZO(f g:Nat→Int):∀k:Nat,qH (fun i=>f i+g i) k=qH f k+qH g k
 |0=>rfl
 |k+1=>by rw[qH,qH,qH,ZO f g k];omega
theorem JN(f:Nat→Int)(c:Int):∀k:Nat,qH (fun i=>f i*c) k=qH f k*c
 |0=>by simp[qH]
 |k+1=>by rw[qH,qH,JN f c k,Int.add_mul]
theorem yG(f:Nat→Int)(c:Int):∀k:Nat,qH (fun i=>c*f i) k=c*qH f k
 |0=>by simp[qH]
 |k+1=>by rw[qH,qH,yG f c k,Int.mul_add]
theorem QS:∀k:Nat,qH (fun _=>0) k=0
 |0=>rfl
 |k+1=>by rw[qH,QS k];rfl
theorem JO(g:Nat→Nat→Int)(m:Nat):∀k:Nat,qH (fun i=>qH (fun t=>g i t) m) k=qH (fun t=>qH (fun i=>g i t) k) m
 |0=>(QS m).symm
 |k+1=>by
  rw[qH,JO g m k,←ZO]
  exact qR fun t _=>rfl
theorem jl{f:Nat→Int}{j:Nat}:∀{k:Nat},j<k→(∀i,i<k→i≠j→f i=0)→qH f k=f j
 |0,h,_=>by omega
 |k+1,h,h2=>by
  rw[qH]
  by_cases hj:j=k
  ·subst hj
   have:qH f j=qH (fun _=>0) j:=qR fun i hi=>h2 i (by omega) (by omega)
   rw[this,QS];omega
  ·rw[jl (by omega) (fun i hi=>h2 i (by omega)),h2 k (by omega) (by omega)];omega
def nrm(A:Nat→Nat→Int)(n:Nat):Int:=aOP (fun j=>qH (fun i=>((A i j).natAbs:Int)) n) n
end Go.Ab
namespace Go.Ab
open Go Go.Proofs
/-! ### What matrices tell-/
def mv(K:Nat)(L:List ExV)(n i j:Nat):Int:=(L.getD (i*n+j) ex0).val K
def eK(K:Nat)(L:List ExV):Prop:=∀x∈L, -(K:Int)≤x.e
theorem QE{K:Nat}{L:List ExV}{i:Nat}(h:eK K L)(hi:i<L.length): -(K:Int)≤(L.getD i ex0).e:=by
 rw[List.getD_eq_getElem?_getD,List.getElem?_eq_getElem hi]
 exact h _ (List.getElem_mem hi)
theorem matV.eK{n:Nat}{L:List ExV}(h:matV n L){K:Nat}(hK:3000≤K):eK K L:=fun x hx=>by have:=(Qu (h.ok x hx)).1;omega
theorem aeX(K:Nat):ex0.val K=0:=Q4
theorem aG4{K n:Nat}{L:List ExV}{j:Nat}(hK:eK K L)(hl:L.length=n*n)(hj:j<n):∀k,k≤n→(agi n L j k).val K=qH (fun i=>((mv K L n i j).natAbs:Int)) k∧ -(K:Int)≤(agi n L j k).e
 |0,_=>⟨aeX K,by show-(K:Int)≤0;omega⟩
 |k+1,hk=>by
  obtain⟨h1,h2⟩:=aG4 hK hl hj k (by omega)
  have h3:=QE hK (i:=k*n+j) (by rw[hl];exact zn (by omega) hj)
  rw[aba]
  refine⟨?_,aaj h2 h3⟩
  rw[Qt (y:=ExV.abs _) h2 h3,h1,aRj];rfl
theorem aIQ{n i j:Nat}(hj:j<n):(i*n+j)/n=i∧(i*n+j) % n=j:=by
 constructor
 ·rw[Nat.mul_comm,Nat.mul_add_div (by omega),Nat.div_eq_of_lt hj,Nat.add_zero]
 ·rw[Nat.mul_comm,Nat.mul_add_mod,Nat.mod_eq_of_lt hj]
theorem aT4{n:Nat}{g:Nat→Nat→ExV}{i j:Nat}(hi:i<n)(hj:j<n):(gl n g (n*n)).getD (i*n+j) ex0=g i j:=by
 rw[aT5 (zn hi hj),(aIQ hj).1,(aIQ hj).2]
theorem aOQ{L:List ExV}{k:Nat}(hk:k<L.length):(L.map ExV.can).getD k ex0=(L.getD k ex0).can:=by
 rw[List.getD_eq_getElem?_getD,List.getElem?_eq_getElem (by rw[List.length_map];exact hk),List.getD_eq_getElem?_getD,List.getElem?_eq_getElem hk]
 simp
theorem aTO{K n:Nat}{g:Nat→Nat→ExV}{i j:Nat}(hi:i<n)(hj:j<n)(hK: -(K:Int)≤(g i j).e):mv K ((gl n g (n*n)).map ExV.can) n i j=(g i j).val K:=by
 unfold mv
 rw[aOQ (by rw[yw];exact zn hi hj),aT4 hi hj,atk hK]
theorem aga{K K' n:Nat}{L L':List ExV}{i j:Nat}(h:eK K L)(h':eK K' L')(hl:L.length=n*n)(hl':L'.length=n*n)(hi:i<n)(hj:j<n):∀k,k≤n→(Xc n L L' i j k).val (K+K')=qH (fun t=>mv K L n i t*mv K' L' n t j) k∧ -((K+K':Nat):Int)≤(Xc n L L' i j k).e
 |0,_=>⟨aeX _,by show-((K+K':Nat):Int)≤0;omega⟩
 |k+1,hk=>by
  obtain⟨h1,h2⟩:=aga h h' hl hl' hi hj k (by omega)
  have a:=QE h (i:=i*n+k) (by rw[hl];exact zn hi (by omega))
  have b:=QE h' (i:=k*n+j) (by rw[hl'];exact zn (by omega) hj)
  rw[aaL]
  have c: -((K+K':Nat):Int)≤((L.getD (i*n+k) ex0).times (L'.getD (k*n+j) ex0)).e:=by show _≤(L.getD (i*n+k) ex0).e+(L'.getD (k*n+j) ex0).e;omega
  refine⟨?_,aaj h2 c⟩
  rw[Qt h2 c,h1,Ql a b];rfl
theorem aFD{K K' n:Nat}{L L':List ExV}{i j:Nat}(h:eK K L)(h':eK K' L')(hl:L.length=n*n)(hl':L'.length=n*n)(hi:i<n)(hj:j<n):mv (K+K') ((zv n L L').map ExV.can) n i j=qH (fun t=>mv K L n i t*mv K' L' n t j) n:=by
 obtain⟨h1,h2⟩:=aga h h' hl hl' hi hj n (Nat.le_refl n)
 unfold zv
 rw[aTO hi hj h2,h1]
end Go.Ab
namespace Go.Ab
/-! ### Determinants of integers-/
def sgI(k:Nat):Int:=if k % 2=1 then-1 else 1
def skp(r i:Nat):Nat:=if i<r then i else i+1
def aeJ(A:Nat→Nat→Int)(r c:Nat):Nat→Nat→Int:=fun i j=>A (skp r i) (skp c j)
def ja:Nat→(Nat→Nat→Int)→Int
 |0,_=>1
 |n+1,A=>qH (fun j=>sgI j*(A 0 j*ja n (aeJ A 0 j))) (n+1)
theorem at0(A:Nat→Nat→Int):ja 1 A=A 0 0:=by
 simp[ja,qH,sgI]
theorem al3(A:Nat→Nat→Int):ja 2 A=A 0 0*A 1 1-A 0 1*A 1 0:=by
 simp[ja,qH,sgI,aeJ,skp];omega
theorem al2(A:Nat→Nat→Int):ja 3 A=A 0 0*(A 1 1*A 2 2-A 1 2*A 2 1)-A 0 1*(A 1 0*A 2 2-A 1 2*A 2 0)+A 0 2*(A 1 0*A 2 1-A 1 1*A 2 0):=by
 rw[ja]
 simp only[al3,qH,sgI,aeJ,skp]
 simp
 omega
theorem aI8(A:Nat→Nat→Int):ja 4 A=(A 0 0*A 1 1-A 0 1*A 1 0)*(A 2 2*A 3 3-A 2 3*A 3 2)-(A 0 0*A 1 2-A 0 2*A 1 0)*(A 2 1*A 3 3-A 2 3*A 3 1)
  +(A 0 0*A 1 3-A 0 3*A 1 0)*(A 2 1*A 3 2-A 2 2*A 3 1)+(A 0 1*A 1 2-A 0 2*A 1 1)*(A 2 0*A 3 3-A 2 3*A 3 0)
  -(A 0 1*A 1 3-A 0 3*A 1 1)*(A 2 0*A 3 2-A 2 2*A 3 0)+(A 0 2*A 1 3-A 0 3*A 1 2)*(A 2 0*A 3 1-A 2 1*A 3 0):=by
 rw[ja]
 simp only[al2,qH,sgI,aeJ,skp]
 simp
 grind
end Go.Ab
namespace Go.Ab
theorem aGF{n:Nat}(hn:n≤4)(A:Nat→Nat→Int):ja n (fun i j=>A j i)=ja n A:=by
 rcases(show n=0∨n=1∨n=2∨n=3∨n=4 by omega)with rfl|rfl|rfl|rfl|rfl
 ·rfl
 ·rw[at0,at0]
 ·rw[al3,al3];grind
 ·rw[al2,al2];grind
 ·rw[aI8,aI8];grind
theorem jX:∀{n:Nat} {A B:Nat→Nat→Int},(∀i j,i<n→j<n→A i j=B i j)→ja n A=ja n B
 |0,_,_,_=>rfl
 |n+1,A,B,h=>by
  rw[ja,ja]
  refine qR fun j hj=>?_
  rw[h 0 j (by omega) hj,jX (n:=n) (A:=aeJ A 0 j) (B:=aeJ B 0 j) fun i k hi hk=>?_]
  unfold aeJ skp
  exact h _ _ (by split<;>omega) (by split<;>omega)
def m2(A:Nat→Nat→Int)(r s c d:Nat):Int:=A r c*A s d-A r d*A s c
theorem aaM(A:Nat→Nat→Int):ja 4 A=m2 A 0 1 0 1*m2 A 2 3 2 3-m2 A 0 1 0 2*m2 A 2 3 1 3+m2 A 0 1 0 3*m2 A 2 3 1 2+m2 A 0 1 1 2*m2 A 2 3 0 3-m2 A 0 1 1 3*m2 A 2 3 0 2+m2 A 0 1 2 3*m2 A 2 3 0 1:=aI8 A
def j0(n:Nat)(A B:Nat→Nat→Int):Nat→Nat→Int:=fun i j=>qH (fun t=>A i t*B t j) n
theorem bir(A B:Nat→Nat→Int)(i j:Nat):j0 4 A B i j=A i 0*B 0 j+A i 1*B 1 j+A i 2*B 2 j+A i 3*B 3 j:=by
 simp[j0,qH]
theorem bis(A B:Nat→Nat→Int)(i j:Nat):j0 3 A B i j=A i 0*B 0 j+A i 1*B 1 j+A i 2*B 2 j:=by
 simp[j0,qH]
theorem bit(A B:Nat→Nat→Int)(i j:Nat):j0 2 A B i j=A i 0*B 0 j+A i 1*B 1 j:=by
 simp[j0,qH]
theorem biu(A B:Nat→Nat→Int)(i j:Nat):j0 1 A B i j=A i 0*B 0 j:=by
 simp[j0,qH]
theorem aTR(A B:Nat→Nat→Int)(r s c d:Nat):m2 (j0 4 A B) r s c d=m2 A r s 0 1*m2 B 0 1 c d+m2 A r s 0 2*m2 B 0 2 c d+m2 A r s 0 3*m2 B 0 3 c d+m2 A r s 1 2*m2 B 1 2 c d+m2 A r s 1 3*m2 B 1 3 c d+m2 A r s 2 3*m2 B 2 3 c d:=by
 simp only[m2,bir]
 grind
def q4(B:Nat→Nat→Int)(p q r s:Nat):Int:=m2 B p q 0 1*m2 B r s 2 3-m2 B p q 0 2*m2 B r s 1 3+m2 B p q 0 3*m2 B r s 1 2+m2 B p q 1 2*m2 B r s 0 3-m2 B p q 1 3*m2 B r s 0 2+m2 B p q 2 3*m2 B r s 0 1
theorem Qs(B:Nat→Nat→Int)(p q s:Nat):q4 B p q p s=0:=by unfold q4 m2;grind
theorem aE4(B:Nat→Nat→Int)(p q r:Nat):q4 B p q r p=0:=by unfold q4 m2;grind
theorem aE3(B:Nat→Nat→Int)(p q s:Nat):q4 B p q q s=0:=by unfold q4 m2;grind
theorem aah(B:Nat→Nat→Int)(p q r:Nat):q4 B p q r q=0:=by unfold q4 m2;grind
theorem bkN(B:Nat→Nat→Int):q4 B 0 1 2 3=ja 4 B:=(aaM B).symm
theorem bkM(B:Nat→Nat→Int):q4 B 0 2 1 3= -ja 4 B:=by rw[aaM];unfold q4 m2;grind
theorem bkL(B:Nat→Nat→Int):q4 B 0 3 1 2=ja 4 B:=by rw[aaM];unfold q4 m2;grind
theorem bkK(B:Nat→Nat→Int):q4 B 1 2 0 3=ja 4 B:=by rw[aaM];unfold q4 m2;grind
theorem bkJ(B:Nat→Nat→Int):q4 B 1 3 0 2= -ja 4 B:=by rw[aaM];unfold q4 m2;grind
theorem bkI(B:Nat→Nat→Int):q4 B 2 3 0 1=ja 4 B:=by rw[aaM];unfold q4 m2;grind
theorem asu(A B:Nat→Nat→Int):ja 4 (j0 4 A B)=m2 A 0 1 0 1*m2 A 2 3 0 1*q4 B 0 1 0 1+m2 A 0 1 0 1*m2 A 2 3 0 2*q4 B 0 1 0 2+m2 A 0 1 0 1*m2 A 2 3 0 3*q4 B 0 1 0 3+m2 A 0 1 0 1*m2 A 2 3 1 2*q4 B 0 1 1 2+m2 A 0 1 0 1*m2 A 2 3 1 3*q4 B 0 1 1 3+m2 A 0 1 0 1*m2 A 2 3 2 3*q4 B 0 1 2 3+m2 A 0 1 0 2*m2 A 2 3 0 1*q4 B 0 2 0 1+m2 A 0 1 0 2*m2 A 2 3 0 2*q4 B 0 2 0 2+m2 A 0 1 0 2*m2 A 2 3 0 3*q4 B 0 2 0 3+m2 A 0 1 0 2*m2 A 2 3 1 2*q4 B 0 2 1 2+m2 A 0 1 0 2*m2 A 2 3 1 3*q4 B 0 2 1 3+m2 A 0 1 0 2*m2 A 2 3 2 3*q4 B 0 2 2 3+m2 A 0 1 0 3*m2 A 2 3 0 1*q4 B 0 3 0 1+m2 A 0 1 0 3*m2 A 2 3 0 2*q4 B 0 3 0 2+m2 A 0 1 0 3*m2 A 2 3 0 3*q4 B 0 3 0 3+m2 A 0 1 0 3*m2 A 2 3 1 2*q4 B 0 3 1 2+m2 A 0 1 0 3*m2 A 2 3 1 3*q4 B 0 3 1 3+m2 A 0 1 0 3*m2 A 2 3 2 3*q4 B 0 3 2 3+m2 A 0 1 1 2*m2 A 2 3 0 1*q4 B 1 2 0 1+m2 A 0 1 1 2*m2 A 2 3 0 2*q4 B 1 2 0 2+m2 A 0 1 1 2*m2 A 2 3 0 3*q4 B 1 2 0 3+m2 A 0 1 1 2*m2 A 2 3 1 2*q4 B 1 2 1 2+m2 A 0 1 1 2*m2 A 2 3 1 3*q4 B 1 2 1 3+m2 A 0 1 1 2*m2 A 2 3 2 3*q4 B 1 2 2 3+m2 A 0 1 1 3*m2 A 2 3 0 1*q4 B 1 3 0 1+m2 A 0 1 1 3*m2 A 2 3 0 2*q4 B 1 3 0 2+m2 A 0 1 1 3*m2 A 2 3 0 3*q4 B 1 3 0 3+m2 A 0 1 1 3*m2 A 2 3 1 2*q4 B 1 3 1 2+m2 A 0 1 1 3*m2 A 2 3 1 3*q4 B 1 3 1 3+m2 A 0 1 1 3*m2 A 2 3 2 3*q4 B 1 3 2 3+m2 A 0 1 2 3*m2 A 2 3 0 1*q4 B 2 3 0 1+m2 A 0 1 2 3*m2 A 2 3 0 2*q4 B 2 3 0 2+m2 A 0 1 2 3*m2 A 2 3 0 3*q4 B 2 3 0 3+m2 A 0 1 2 3*m2 A 2 3 1 2*q4 B 2 3 1 2+m2 A 0 1 2 3*m2 A 2 3 1 3*q4 B 2 3 1 3+m2 A 0 1 2 3*m2 A 2 3 2 3*q4 B 2 3 2 3:=by
 rw[aaM]
 simp only[aTR]
 simp only[q4]
 grind
theorem aGI(A B:Nat→Nat→Int):ja 4 (j0 4 A B)=ja 4 A*ja 4 B:=by
 rw[asu]
 rw[Qs B 0 1 1,Qs B 0 1 2,Qs B 0 1 3,aE3 B 0 1 2,aE3 B 0 1 3,Qs B 0 2 1,Qs B 0 2 2,Qs B 0 2 3,aah B 0 2 1,aE3 B 0 2 3,Qs B 0 3 1,Qs B 0 3 2,Qs B 0 3 3,aah B 0 3 1,aah B 0 3 2,aE4 B 1 2 0,aah B 1 2 0,Qs B 1 2 2,Qs B 1 2 3,aE3 B 1 2 3,aE4 B 1 3 0,aah B 1 3 0,Qs B 1 3 2,Qs B 1 3 3,aah B 1 3 2,aE4 B 2 3 0,aah B 2 3 0,aE4 B 2 3 1,aah B 2 3 1,Qs B 2 3 3]
 rw[bkN,bkM,bkL,bkK,bkJ,bkI,aaM A]
 grind
theorem Q5{n:Nat}(hn:n≤4)(A B:Nat→Nat→Int):ja n (j0 n A B)=ja n A*ja n B:=by
 rcases(show n=0∨n=1∨n=2∨n=3∨n=4 by omega)with rfl|rfl|rfl|rfl|rfl
 ·rfl
 ·rw[at0,at0,at0,biu]
 ·rw[al3,al3,al3];simp only[bit];grind
 ·rw[al2,al2,al2];simp only[bis];grind
 ·exact aGI A B
end Go.Ab
namespace Go.Ab
def aRD(n:Nat)(A:Nat→Nat→Int)(k j:Nat):Int:=sgI (k+j)*ja (n-1) (aeJ A j k)
theorem aRg{n:Nat}(hn:n≤4)(A:Nat→Nat→Int){i j:Nat}(hi:i<n)(hj:j<n):j0 n A (aRD n A) i j=if i=j then ja n A else 0:=by
 rcases(show n=1∨n=2∨n=3∨n=4 by omega)with rfl|rfl|rfl|rfl
 ·obtain rfl:i=0:=by omega
  obtain rfl:j=0:=by omega
  rw[biu,at0,if_pos rfl]
  simp[aRD,sgI,ja]
 ·simp only[bit,aRD,al3,show 2-1=1 from rfl,at0]
  rcases(show i=0∨i=1 by omega)with rfl|rfl<;>rcases(show j=0∨j=1 by omega)with rfl|rfl<;>(simp[sgI,aeJ,skp];try grind)
 ·simp only[bis,aRD,al2,show 3-1=2 from rfl,al3]
  rcases(show i=0∨i=1∨i=2 by omega)with rfl|rfl|rfl<;>rcases(show j=0∨j=1∨j=2 by omega)with rfl|rfl|rfl<;>(simp[sgI,aeJ,skp];try grind)
 ·simp only[bir,aRD,aI8,show 4-1=3 from rfl,al2]
  rcases(show i=0∨i=1∨i=2∨i=3 by omega)with rfl|rfl|rfl|rfl<;>rcases(show j=0∨j=1∨j=2∨j=3 by omega)with rfl|rfl|rfl|rfl<;>(simp[sgI,aeJ,skp];try grind)
end Go.Ab
namespace Go.Ab
/-! ### Ranks-/
theorem ZN{f:Nat→Int}{k:Nat}:∀{m:Nat},k≤m→(∀i,k≤i→f i=0)→qH f m=qH f k
 |0,h,_=>by
  obtain rfl:k=0:=by omega
  rfl
 |m+1,h,hz=>by
  by_cases e:k=m+1
  ·rw[e]
  ·rw[qH,ZN (by omega) hz,hz m (by omega),Int.add_zero]
def aet(n k:Nat)(A:Nat→Nat→Int):Prop:=∃(c:Int) (B C:Nat→Nat→Int),c≠0∧∀i j,i<n→j<n→c*A i j=qH (fun t=>B i t*C t j) k
theorem QR{n k:Nat}{A A':Nat→Nat→Int}(h:∀i j,i<n→j<n→A i j=A' i j):aet n k A→aet n k A'
 |⟨c,B,C,h0,h1⟩=>⟨c,B,C,h0,fun i j hi hj=>by rw[←h i j hi hj];exact h1 i j hi hj⟩
theorem K5{n k:Nat}{A:Nat→Nat→Int}:aet n k A→aet n k (fun i j=>A j i)
 |⟨c,B,C,h0,h1⟩=>⟨c,fun i t=>C t i,fun t j=>B j t,h0,fun i j hi hj=>by
  rw[h1 j i hj hi];exact qR fun t _=>Int.mul_comm _ _⟩
theorem Yn(n k:Nat)(f:Nat→Int)(g:Nat→Nat→Int)(h:Nat→Int):qH (fun s=>qH (fun t=>f t*g t s) k*h s) n=qH (fun t=>f t*qH (fun s=>g t s*h s) n) k:=by
 have e1:qH (fun s=>qH (fun t=>f t*g t s) k*h s) n=qH (fun s=>qH (fun t=>f t*(g t s*h s)) k) n:=
  qR fun s _=>by rw[←JN];exact qR fun t _=>Int.mul_assoc _ _ _
 have e2:qH (fun t=>f t*qH (fun s=>g t s*h s) n) k=qH (fun t=>qH (fun s=>f t*(g t s*h s)) n) k:=
  qR fun t _=>by rw[←yG]
 rw[e1,e2,JO]
theorem K6{n k:Nat}{A:Nat→Nat→Int}(D:Nat→Nat→Int):aet n k A→aet n k (j0 n A D)
 |⟨c,B,C,h0,h1⟩=>⟨c,B,j0 n C D,h0,fun i j hi hj=>by
  show c*qH (fun t=>A i t*D t j) n=qH (fun t=>B i t*qH (fun s=>C t s*D s j) n) k
  rw[←Yn,←yG]
  exact qR fun s hs=>by rw[←h1 i s hi hs,Int.mul_assoc]⟩
theorem ZM{n k:Nat}{A:Nat→Nat→Int}(D:Nat→Nat→Int):aet n k A→aet n k (j0 n D A)
 |⟨c,B,C,h0,h1⟩=>⟨c,j0 n D B,C,h0,fun i j hi hj=>by
  show c*qH (fun t=>D i t*A t j) n=qH (fun t=>qH (fun s=>D i s*B s t) n*C t j) k
  rw[Yn,←yG]
  exact qR fun s hs=>by rw[←h1 s j hs hj,Int.mul_left_comm]⟩
def dgI(c:Int)(i j:Nat):Int:=if i=j then c else 0
theorem aIP{n:Nat}(c:Int)(A:Nat→Nat→Int){i j:Nat}(hi:i<n):j0 n (dgI c) A i j=c*A i j:=by
 unfold j0
 rw[jl (j:=i) hi (fun t _ hne=>by unfold dgI;rw[if_neg (fun h=>hne h.symm),Int.zero_mul])]
 unfold dgI;rw[if_pos rfl]
theorem aI7{n:Nat}(hn:n≤4){c:Int}(hc:c≠0):ja n (dgI c)≠0:=by
 rcases(show n=0∨n=1∨n=2∨n=3∨n=4 by omega)with rfl|rfl|rfl|rfl|rfl
 ·intro h;cases h
 ·rw[at0];simp[dgI,hc]
 ·rw[al3];simp[dgI,hc]
 ·rw[al2];simp[dgI,hc]
 ·rw[aI8];simp[dgI,hc]
theorem aGH{n:Nat}(hn:n≤4)(h1:1≤n){A:Nat→Nat→Int}(h:∀i,A i (n-1)=0):ja n A=0:=by
 rcases(show n=1∨n=2∨n=3∨n=4 by omega)with rfl|rfl|rfl|rfl
 ·have:=h 0
  rw[at0];simpa using this
 ·have h:∀i,A i 1=0:=h
  rw[al3];simp[h]
 ·have h:∀i,A i 2=0:=h
  rw[al2];simp[h]
 ·have h:∀i,A i 3=0:=h
  rw[aI8];simp[h]
theorem afL{n k:Nat}(hn:n≤4)(hk:k<n){A:Nat→Nat→Int}:aet n k A→ja n A=0
 |⟨c,B,C,h0,h1⟩=>by
  have e:ja n (j0 n (dgI c) A)=ja n (j0 n (fun i t=>if t<k then B i t else 0) C):=jX fun i j hi hj=>by
   rw[aIP c A hi,h1 i j hi hj]
   show _=qH (fun t=>(if t<k then B i t else 0)*C t j) n
   rw[ZN (f:=fun t=>(if t<k then B i t else 0)*C t j) (k:=k) (by omega) (fun t ht=>by rw[if_neg (by omega),Int.zero_mul])]
   exact qR fun t ht=>by rw[if_pos ht]
  rw[Q5 hn,Q5 hn,aGH hn (by omega) (A:=fun i t=>if t<k then B i t else 0) (fun i=>if_neg (by omega)),Int.zero_mul]at e
  exact(Int.mul_eq_zero.1 e).resolve_left (aI7 hn h0)
theorem ass{r:Nat}(hr:r≤4){T:Nat→Nat→Int}(hd:∀t,t<r→T t t≠0)(hz:∀s t,t<s→s<r→T s t=0):ja r T≠0:=by
 rcases(show r=0∨r=1∨r=2∨r=3∨r=4 by omega)with rfl|rfl|rfl|rfl|rfl
 ·intro h;cases h
 ·rw[at0];exact hd 0 (by omega)
 ·rw[al3,hz 1 0 (by omega) (by omega)]
  simp[hd 0 (by omega),hd 1 (by omega)]
 ·rw[al2,hz 1 0 (by omega) (by omega),hz 2 0 (by omega) (by omega),hz 2 1 (by omega) (by omega)]
  simp[hd 0 (by omega),hd 1 (by omega),hd 2 (by omega)]
 ·rw[aI8,hz 1 0 (by omega) (by omega),hz 2 0 (by omega) (by omega),hz 2 1 (by omega) (by omega),hz 3 0 (by omega) (by omega),hz 3 1 (by omega) (by omega),hz 3 2 (by omega) (by omega)]
  simp[hd 0 (by omega),hd 1 (by omega),hd 2 (by omega),hd 3 (by omega)]
structure isRank(n:Nat)(A:Nat→Nat→Int)(r:Nat):Prop where
 le:r≤n
 up:aet n r A
 low:∀k,aet n k A→r≤k
 full:r=n→ja n A≠0
theorem isRank.det{n r:Nat}{A:Nat→Nat→Int}(hn:n≤4)(h:isRank n A r):r=n↔ja n A≠0:=
 ⟨h.full,fun hd=>by
  have:=h.le
  rcases Nat.lt_or_ge r n with g|g
  ·exact absurd (afL hn g h.up) hd
  ·omega⟩
theorem isRank.turn{n r s:Nat}{A:Nat→Nat→Int}(h:isRank n A r)(g:isRank n (fun i j=>A j i) s):s=r:=
 Nat.le_antisymm (g.low r (K5 h.up)) (h.low s (K5 g.up))
theorem isRank.congr{n r:Nat}{A B:Nat→Nat→Int}(h:isRank n A r)(e:∀i j,i<n→j<n→A i j=B i j):isRank n B r:=
 ⟨h.le,QR e h.up,fun k hk=>h.low k (QR (fun i j hi hj=>(e i j hi hj).symm) hk),fun hr=>by rw[←jX e];exact h.full hr⟩
theorem isRank.mul{n r s t:Nat}{A B:Nat→Nat→Int}(h:isRank n A r)(g:isRank n B s)(p:isRank n (j0 n A B) t):t≤r∧t≤s:=
 ⟨p.low r (K6 B h.up),p.low s (ZM A g.up)⟩
structure elim(n:Nat)(A C:Nat→Nat→Int)(r j:Nat):Prop where
 le:r≤n
 rj:r≤j
 u:∃U:Nat→Nat→Int,ja n U≠0∧∀i k,i<n→k<n→C i k=j0 n U A i k
 p:∃p:Nat→Nat,∀t,t<r→p t<j∧p t<n∧C t (p t)≠0∧∀s,t<s→s<n→C s (p t)=0
 z:∀i k,r≤i→i<n→k<j→k<n→C i k=0
theorem elim.start(n:Nat)(hn:n≤4)(A:Nat→Nat→Int):elim n A A 0 0:=
 ⟨by omega,by omega,⟨dgI 1,aI7 hn (by decide),fun i k hi hk=>by rw[aIP 1 A hi,Int.one_mul]⟩,⟨fun _=>0,fun t h=>by omega⟩,fun i k _ _ h=>by omega⟩
theorem QW(n:Nat)(A B C:Nat→Nat→Int)(i j:Nat):j0 n (j0 n A B) C i j=j0 n A (j0 n B C) i j:=
 Yn n n (fun t=>A i t) B (fun s=>C s j)
theorem elim.rank{n:Nat}(hn:n≤4){A C:Nat→Nat→Int}{r:Nat}(h:elim n A C r n):isRank n A r:=by
 obtain⟨hle, -,⟨U,hU,hC⟩,⟨p,hp⟩,hz⟩:=h
 have lowC:∀k,aet n k C→r≤k:=fun k hk=>by
  rcases Nat.lt_or_ge k r with g|g
  ·exfalso
   obtain⟨c,B,D,h0,h1⟩:=hk
   have ht:aet r k (fun s t=>C s (p t)):=⟨c,B,fun u t=>D u (p t),h0,fun s t hs ht=>h1 s (p t) (by omega) (hp t ht).2.1⟩
   exact ass (by omega) (fun t ht=>(hp t ht).2.2.1) (fun s t hst hs=>(hp t (by omega)).2.2.2 s hst (by omega)) (afL (by omega) g ht)
  ·exact g
 refine⟨hle,?_,fun k hk=>lowC k (QR (fun i j hi hj=>(hC i j hi hj).symm) (ZM U hk)),fun hr hd=>?_⟩
 ·
  obtain⟨V,hV⟩:∃V:Nat→Nat→Int,∀i j,i<n→j<n→j0 n V U i j=if i=j then ja n U else 0:=by
   refine⟨fun i j=>aRD n (fun a b=>U b a) j i,fun i j hi hj=>?_⟩
   have:=aRg hn (fun a b=>U b a) hj hi
   rw[aGF hn]at this
   have e2:(if i=j then ja n U else 0)=if j=i then ja n U else 0:=by
    by_cases e:i=j
    ·rw[if_pos e,if_pos e.symm]
    ·rw[if_neg e,if_neg (fun h=>e h.symm)]
   rw[e2,←this]
   exact qR fun t _=>Int.mul_comm _ _
  refine⟨ja n U,V,C,hU,fun i j hi hj=>?_⟩
  have e1:qH (fun t=>V i t*C t j) r=qH (fun t=>V i t*C t j) n:=by
   have:qH (fun t=>V i t*C t j) n=qH (fun t=>if t<r then V i t*C t j else 0) n:=qR fun t ht=>by
    by_cases g:t<r
    ·rw[if_pos g]
    ·rw[if_neg g,hz t j (by omega) ht hj hj,Int.mul_zero]
   rw[this,ZN hle (fun t ht=>if_neg (by omega))]
   exact qR fun t ht=>by rw[if_pos ht]
  rw[e1]
  have e2:qH (fun t=>V i t*C t j) n=j0 n (j0 n V U) A i j:=by
   rw[QW]
   exact qR fun t ht=>by rw[hC t j ht hj]
  rw[e2]
  show _=qH (fun t=>j0 n V U i t*A t j) n
  rw[jl (j:=i) hi (fun t ht hne=>by rw[hV i t hi ht,if_neg (fun h=>hne h.symm),Int.zero_mul]),hV i i hi hi,if_pos rfl]
 ·subst hr
  have h1:ja r C=0:=by
   rw[jX hC,Q5 hn,hd,Int.mul_zero]
  have h2:ja r (j0 r C (fun u t=>if u=p t then 1 else 0))=0:=by rw[Q5 hn,h1,Int.zero_mul]
  refine ass hn (T:=fun s t=>C s (p t)) (fun t ht=>(hp t ht).2.2.1) (fun s t hst hs=>(hp t (by omega)).2.2.2 s hst (by omega)) ?_
  rw[←h2]
  refine jX fun i j hi hj=>?_
  show C i (p j)=qH (fun u=>C i u*(if u=p j then 1 else 0)) r
  rw[jl (j:=p j) (hp j hj).2.1 (fun t _ hne=>by rw[if_neg hne,Int.mul_zero]),if_pos rfl,Int.mul_one]
theorem elim.skip{n:Nat}{A C:Nat→Nat→Int}{r j:Nat}(h:elim n A C r j)(hz:∀i,r≤i→i<n→C i j=0):elim n A C r (j+1):=by
 obtain⟨h1,h2,h3,⟨p,hp⟩,h5⟩:=h
 refine⟨h1,by omega,h3,⟨p,fun t ht=>⟨by have:=(hp t ht).1;omega,(hp t ht).2⟩⟩,fun i k hi hin hk hkn=>?_⟩
 rcases(show k<j∨k=j by omega)with g|rfl
 ·exact h5 i k hi hin g hkn
 ·exact hz i hi hin
theorem aGG:∀n,n<5→∀a,a<n→∀b,b<n→ja n (fun i j=>if j=(if i=a then b else if i=b then a else i)then 1 else 0)≠0:=by decide+kernel
def swI(a b i:Nat):Nat:=if i=a then b else if i=b then a else i
theorem elim.swap{n:Nat}(hn:n≤4){A C:Nat→Nat→Int}{r j k:Nat}(h:elim n A C r j)(hr:r<n)(hk:r≤k)(hkn:k<n):elim n A (fun i=>C (swI r k i)) r j:=by
 obtain⟨h1,h2,⟨U,hU,hC⟩,⟨p,hp⟩,h5⟩:=h
 have hs:∀i,i<n→swI r k i<n:=fun i hi=>by unfold swI;split<;>(try split)<;>omega
 have hge:∀i,r≤i→r≤swI r k i:=fun i hi=>by unfold swI;split<;>(try split)<;>omega
 have hlt:∀i,i<r→swI r k i=i:=fun i hi=>by unfold swI;rw[if_neg (by omega),if_neg (by omega)]
 refine⟨h1,h2,⟨j0 n (fun i j=>if j=swI r k i then 1 else 0) U,?_,fun i m hi hm=>?_⟩,⟨p,fun t ht=>?_⟩,fun i m hi hin hm hmn=>h5 _ m (hge i hi) (hs i hin) hm hmn⟩
 ·rw[Q5 hn]
  intro e
  rcases Int.mul_eq_zero.1 e with e|e
  ·exact aGG n (by omega) r hr k hkn e
  ·exact hU e
 ·rw[QW]
  show C (swI r k i) m=qH (fun t=>(if t=swI r k i then 1 else 0)*j0 n U A t m) n
  rw[jl (j:=swI r k i) (hs i hi) (fun t _ hne=>by rw[if_neg hne,Int.zero_mul]),if_pos rfl,Int.one_mul]
  exact hC _ m (hs i hi) hm
 ·obtain⟨a,b,c,d⟩:=hp t ht
  refine⟨a,b,?_,fun s hts hsn=>?_⟩
  ·show C (swI r k t) (p t)≠0
   rw[hlt t ht];exact c
  ·exact d _ (by have:=hge s;have:=hlt s;rcases Nat.lt_or_ge s r with g|g<;>omega) (hs s hsn)
theorem ast{n:Nat}(hn:n≤4){a r:Nat}(ha:a<n)(hr:r<n)(hne:a≠r)(p q:Int)(hp:p≠0):ja n (fun i j=>if i=a then(if j=a then p else if j=r then-q else 0)else if i=j then 1 else 0)≠0:=by
 rcases(show n=1∨n=2∨n=3∨n=4 by omega)with rfl|rfl|rfl|rfl
 ·omega
 ·rw[al3]
  rcases(show a=0∨a=1 by omega)with rfl|rfl<;>rcases(show r=0∨r=1 by omega)with rfl|rfl<;>first|omega|simp[hp]
 ·rw[al2]
  rcases(show a=0∨a=1∨a=2 by omega)with rfl|rfl|rfl<;>rcases(show r=0∨r=1∨r=2 by omega)with rfl|rfl|rfl<;>first|omega|simp[hp]
 ·rw[aI8]
  rcases(show a=0∨a=1∨a=2∨a=3 by omega)with rfl|rfl|rfl|rfl<;>rcases(show r=0∨r=1∨r=2∨r=3 by omega)with rfl|rfl|rfl|rfl<;>first|omega|simp[hp]
structure elimR(n:Nat)(A C:Nat→Nat→Int)(r j m:Nat):Prop where
 rn:r<n
 rj:r≤j
 jn:j<n
 rm:r<m
 u:∃U:Nat→Nat→Int,ja n U≠0∧∀i k,i<n→k<n→C i k=j0 n U A i k
 p:∃p:Nat→Nat,∀t,t<r→p t<j∧p t<n∧C t (p t)≠0∧∀s,t<s→s<n→C s (p t)=0
 z:∀i k,r≤i→i<n→k<j→k<n→C i k=0
 pv:C r j≠0
 zm:∀i,r<i→i<m→i<n→C i j=0
theorem elim.pivot{n:Nat}{A C:Nat→Nat→Int}{r j:Nat}(h:elim n A C r j)(hr:r<n)(hj:j<n)(hp:C r j≠0):elimR n A C r j (r+1):=
 ⟨hr,h.rj,hj,by omega,h.u,h.p,h.z,hp,fun i h1 h2=>by omega⟩
theorem elimR.done{n:Nat}{A C:Nat→Nat→Int}{r j m:Nat}(h:elimR n A C r j m)(hm:n≤m):elim n A C (r+1) (j+1):=by
 obtain⟨h1,h2,h3,h4,h5,⟨p,hp⟩,h7,h8,h9⟩:=h
 refine⟨by omega,by omega,h5,⟨fun t=>if t=r then j else p t,fun t ht=>?_⟩,fun i k hi hin hk hkn=>?_⟩
 ·dsimp only
  by_cases e:t=r
  ·rw[if_pos e,e]
   exact⟨by omega,h3,h8,fun s hs hsn=>h9 s hs (by omega) hsn⟩
  ·rw[if_neg e]
   obtain⟨a,b,c,d⟩:=hp t (by omega)
   exact⟨by omega,b,c,d⟩
 ·rcases(show k<j∨k=j by omega)with g|rfl
  ·exact h7 i k (by omega) hin g hkn
  ·exact h9 i (by omega) (by omega) hin
theorem elimR.step{n:Nat}(hn:n≤4){A C C':Nat→Nat→Int}{r j m:Nat}(h:elimR n A C r j m)(hm:m<n)(h1:∀i k,i<n→k<n→i≠m→C' i k=C i k)(h2:∀k,k<n→C' m k=C m k*C r j-C r k*C m j):elimR n A C' r j (m+1):=by
 obtain⟨g1,g2,g3,g4,⟨U,hU,hC⟩,⟨p,hp⟩,g7,g8,g9⟩:=h
 refine⟨g1,g2,g3,by omega,⟨j0 n (fun i k=>if i=m then(if k=m then C r j else if k=r then-C m j else 0)else if i=k then 1 else 0) U,?_,fun i k hi hk=>?_⟩,⟨p,fun t ht=>?_⟩,fun i k hi hin hk hkn=>?_,?_,fun i hi him hin=>?_⟩
 ·rw[Q5 hn]
  intro e
  rcases Int.mul_eq_zero.1 e with e|e
  ·exact ast hn hm g1 (by omega) (C r j) (C m j) g8 e
  ·exact hU e
 ·rw[QW]
  show C' i k=qH (fun t=>(if i=m then(if t=m then C r j else if t=r then-C m j else 0)else if i=t then 1 else 0)*j0 n U A t k) n
  by_cases e:i=m
  ·subst e
   have e2:qH (fun t=>(if i=i then(if t=i then C r j else if t=r then-C i j else 0)else if i=t then 1 else 0)*j0 n U A t k) n=qH (fun t=>(if t=i then C r j*C i k else 0)+(if t=r then-C i j*C r k else 0)) n:=qR fun t ht=>by
    rw[if_pos rfl,←hC t k ht hk]
    by_cases a:t=i
    ·rw[if_pos a,if_pos a,if_neg (show ¬t=r by omega),a,Int.add_zero]
    ·rw[if_neg a,if_neg a]
     by_cases b:t=r
     ·rw[if_pos b,if_pos b,b,Int.zero_add]
     ·rw[if_neg b,if_neg b,Int.zero_mul,Int.add_zero]
   rw[e2,ZO,jl (j:=i) hi (fun t _ hne=>if_neg hne),jl (j:=r) g1 (fun t _ hne=>if_neg hne),if_pos rfl,if_pos rfl,h2 k hk,Int.mul_comm (C i k),Int.neg_mul,Int.mul_comm (C r k)]
   omega
  ·rw[jl (j:=i) hi (fun t _ hne=>by rw[if_neg e,if_neg (fun h=>hne h.symm),Int.zero_mul]),if_neg e,if_pos rfl,Int.one_mul,h1 i k hi hk e]
   exact hC i k hi hk
 ·obtain⟨a,b,c,d⟩:=hp t ht
  refine⟨a,b,?_,fun s hts hsn=>?_⟩
  ·rw[h1 t (p t) (by omega) b (by omega)];exact c
  ·by_cases e:s=m
   ·rw[e,h2 _ b,d m (by omega) hm,d r (by omega) g1];simp
   ·rw[h1 s _ hsn b e];exact d s hts hsn
 ·by_cases e:i=m
  ·rw[e,h2 k hkn,g7 m k (by omega) hm hk hkn,g7 r k (by omega) g1 hk hkn];simp
  ·rw[h1 i k hin hkn e];exact g7 i k hi hin hk hkn
 ·rw[h1 r j g1 g3 (by omega)];exact g8
 ·by_cases e:i=m
  ·rw[e,h2 j g3,Int.mul_comm];omega
  ·rw[h1 i j hin g3 e];exact g9 i hi (by omega) hin
end Go.Ab
namespace Go.Ab
open Go Go.Proofs
def blI(l:List UInt8)(i h:Int):Ob:=.own 0 [.sl l.length (qp l),.v (.int .i64 i),.v (.int .i64 h)]
def Xd(l:List UInt8)(Q:AV→Prop):AV→List Ob→List Ob→Prop:=fun r hs bs=>hs=[]∧Q r∧∃i h:Int,(0≤i∧i≤l.length)∧bs=[.own 0 [.sl l.length (qp l),.v (.int .i64 i),.v (.int .i64 h)]]
section
variable {P:Program}{N f c:Nat}{aa0 args:List AV}{hp:Nat→Ob}{K:KV}{Q:AV→Prop}{e:Nat→AV}{l:List UInt8}{i h:Int}
theorem qD{n:Nat}(hc:Con P f false (.pt 10000000 0::args) [.own 0 [.sl l.length (qp l),.v (.int .i64 i),.v (.int .i64 h)]] (Xd l Q))
  (hk:∀(r:AV) (i' h':Int),(0≤i'∧i'≤l.length)→Q r→K (r.ren (rho c [n])) (upd hp n (.own 0 [.sl l.length (qp l),.v (.int .i64 i'),.v (.int .i64 h')])))
  (ha:aa0.map (snp (hpx false [n] hp) (idx [n]) 6)=args:=by simp(disch:=omega)only[go_sem]) (hn:hp n=.own 0 [.sl l.length (qp l),.v (.int .i64 i),.v (.int .i64 h)]:=by simp(disch:=omega)only[go_sem]):@JK P f (.pt n 0::aa0) hp c ⟨K⟩:=by
 refine yD false [n] hc (by rw[List.map_cons,ha];simp[snp,idx]) (by rw[Z5,hn];rfl) rfl (qW hn (by simp[AllL,AV.All])) (by intro m hm;rw[List.mem_singleton.1 hm];exact⟨_,List.mem_cons_self ..,rfl⟩) ?_
 rintro r hs bs ⟨rfl,hq,i',h',hi',rfl⟩-
 exact⟨⟨by simp,trivial,fun h=>by cases h⟩,hk r i' h' hi' hq⟩
theorem aIT{ks:List Nat}:∀{l:List AV},AllL (yn []) l→leL [] ks l l
 | [],_=>trivial
 |a::r,h=>⟨⟨aq8 a,h.1.mono fun _ h=>h.elim⟩,aIT h.2⟩
theorem q8{vs:List AV}(i h:Int)(hq:Q (zt vs))(hi:0≤i∧i≤l.length:=by omega)(hh:hp 10000000=.own 0 [.sl l.length (qp l),.v (.int .i64 i),.v (.int .i64 h)]:=by simp(disch:=omega)only[go_sem])
  (hl:AllL (yn []) vs:=by simp(disch:=omega)only[go_sem]):@aIZ N false 1 ⟨Xd l Q⟩ ⟨e⟩ vs hp:=
 ql [] [] [.own 0 [.sl l.length (qp l),.v (.int .i64 i),.v (.int .i64 h)]] vs rfl (aIT hl) ⟨⟨hh.symm,by simp[Ob.men,AllL,AV.All],trivial⟩,trivial⟩ ⟨rfl,by simp,by simp⟩ (fun h=>by cases h) ⟨rfl,hq,i,h,hi,rfl⟩
end
def biA(l:List UInt8)(xs:List Int)(Q:AV→Prop):AV→List Ob→List Ob→Prop:=fun r hs bs=>hs=[]∧Q r∧∃i h:Int,(0≤i∧i≤l.length)∧bs=[.own 0 [.sl l.length (qp l),.v (.int .i64 i),.v (.int .i64 h)],.own 1 (qh xs)]
section
variable {P:Program}{N f c:Nat}{aa0 args:List AV}{hp:Nat→Ob}{K:KV}{Q:AV→Prop}{e:Nat→AV}{l:List UInt8}{i h:Int}
theorem jZ{n m k:Nat}{xs:List Int}(hc:Con P f false [.pt 10000000 0,.rf 10000001 0 xs.length] [.own 0 [.sl l.length (qp l),.v (.int .i64 i),.v (.int .i64 h)],.own 1 (qh xs)] (biA l xs Q))
  (hk:∀(r:AV) (i' h':Int),(0≤i'∧i'≤l.length)→Q r→K (r.ren (rho c [n,m])) (upd (upd hp n (.own 0 [.sl l.length (qp l),.v (.int .i64 i'),.v (.int .i64 h')])) m (.own 1 (qh xs))))
  (hx:xs.length=k:=by rfl)
  (hn:hp n=.own 0 [.sl l.length (qp l),.v (.int .i64 i),.v (.int .i64 h)]:=by simp(disch:=omega)only[go_sem]) (hm:hp m=.own 1 (qh xs):=by simp(disch:=omega)only[go_sem];rfl)
  (hd:Zd [n,m]=true:=by rfl):@JK P f [.pt n 0,.rf m 0 k] hp c ⟨K⟩:=by
 have hnm:¬m=n:=by
  have:=(jR hd)
  simp only[List.nodup_cons,List.mem_singleton]at this
  exact fun h=>this.1 h.symm
 subst hx
 refine yD false [n,m] hc (by simp[snp,idx,hnm]) (by rw[Z5,Z5,hn,hm];simp only[Ob.ren,ZW,Z5];rfl) hd (aFJ hn (by simp[AllL,AV.All]) hm ZB) (by intro q hq;simp only[List.mem_cons,List.not_mem_nil,or_false]at hq;rcases hq with rfl|rfl<;>simp[AV.top]) ?_
 rintro r hs bs ⟨rfl,hq,i',h',hi',rfl⟩-
 refine⟨⟨by simp,trivial,fun h=>by cases h⟩,?_⟩
 have:=hk r i' h' hi' hq
 simp only[List.map_cons,List.map_nil,Ob.ren,ZW]
 exact this
end
section
variable (l:List UInt8)(hl:l.length≤9223372036854775807)(i h:Int)(hi:0≤i∧i≤l.length)
include hl hi
theorem jY:Con Tryz.prog 243 false [.pt 10000000 0] [.own 0 [.sl l.length (qp l),.v (.int .i64 i),.v (.int .i64 h)]] (Xd l fun r=>∃k:Int,(0≤k∧k≤255)∧r=.v (.int .i64 k)):=by
 refine Con.of_aw Tryz.func243 rfl Tryz.ntmps243 (by simp) (by simp) (by simp) (W.sound ?_)
 show @W Tryz.prog 58 ⟨_⟩ ⟨fun x σ=>@q9 _ _ _ ⟨_⟩ _ ⟨_⟩ x σ⟩ _ _
 simp(disch:=omega)only[go_sem]
 generalize IntKind.i64.wrap (IntKind.i64.wrap (h*6364136223846793005)+1442695040888963407)=h1
 refine qm rfl [⟨0,[],[]⟩,⟨1,[],[]⟩,⟨2,[],[]⟩,⟨3,[],[]⟩,⟨4,[],[]⟩,⟨5,[3],[]⟩,⟨6,[3],[]⟩,⟨7,[3],[]⟩,⟨8,[3],[]⟩,⟨9,[3],[]⟩,⟨10,[],[]⟩,⟨11,[],[]⟩,⟨12,[],[]⟩] (by kernel_rfl) ?_
 simp(disch:=omega)only[go_sem]
 generalize bin (h1.fdiv (2^min 33 64)) (h1.fdiv (2^min 45 64))=y
 have hy:0≤y % 256∧y % 256<256:=by omega
 generalize y % 256=x at*
 refine qm rfl [⟨0,[],[]⟩,⟨1,[],[]⟩,⟨2,[],[]⟩,⟨3,[],[]⟩,⟨4,[3],[]⟩,⟨5,[3],[]⟩,⟨6,[3],[]⟩,⟨7,[3],[]⟩,⟨8,[3],[]⟩,⟨9,[],[]⟩] (by kernel_rfl) ?_
 simp(disch:=omega)only[go_sem]
 refine qe (fun c1=>?_) (fun c1=>?_)
 ·simp(disch:=omega)only[go_sem,c1]
  refine qm rfl [⟨0,[],[]⟩,⟨1,[],[]⟩,⟨2,[],[]⟩,⟨3,[],[]⟩,⟨4,[],[]⟩,⟨5,[4],[]⟩,⟨6,[4],[]⟩,⟨7,[4],[]⟩,⟨8,[4],[]⟩,⟨9,[],[]⟩,⟨10,[],[]⟩,⟨11,[],[]⟩,⟨12,[],[]⟩,⟨13,[],[]⟩,⟨14,[],[]⟩] (by kernel_rfl) ?_
  simp(disch:=omega)only[go_sem]
  refine⟨by omega,by omega,?_⟩
  generalize IntKind.i64.wrap (x+IntKind.i64.wrap ((l.getD i.toNat 0).toNat:Int))=y2
  have hy2:0≤y2 % 256∧y2 % 256<256:=by omega
  refine q8 (i+1) (h1) ⟨_,by omega,rfl⟩
 ·simp(disch:=omega)only[go_sem,c1]
  refine q8 (i) (h1) ⟨_,by omega,rfl⟩
theorem qS(n:Int)(hn:n≤2^62):Con Tryz.prog 155 false [.pt 10000000 0,.v (.int .i64 n)] [.own 0 [.sl l.length (qp l),.v (.int .i64 i),.v (.int .i64 h)]] (Xd l fun r=>∃k:Int,(0≤k∧(0<n→k<n))∧r=.v (.int .i64 k)):=by
 refine Con.of_aw Tryz.func155 rfl Tryz.ntmps155 (by simp) (by simp) (by simp) (W.sound ?_)
 show @W Tryz.prog 37 ⟨_⟩ ⟨fun x σ=>@q9 _ _ _ ⟨_⟩ _ ⟨_⟩ x σ⟩ _ _
 simp(disch:=omega)only[go_sem]
 refine qe (fun c1=>?_) (fun c1=>?_)
 ·simp(disch:=omega)only[go_sem,c1]
  refine q8 (i) (h) ⟨_,⟨by omega,fun h=>by omega⟩,rfl⟩
 ·simp(disch:=omega)only[go_sem,c1]
  refine qe (fun c2=>?_) (fun c2=>?_)
  ·simp(disch:=omega)only[go_sem,c2]
   refine qD (jY l hl i h hi) ?_
   rintro r i1 h1 hi1 ⟨k1,hk1,rfl⟩
   simp(disch:=omega)only[go_sem]
   refine⟨by omega,?_⟩
   have hm:=Int.emod_nonneg k1 (show n≠0 by omega)
   have hm2:=Int.emod_lt_of_pos k1 (show 0<n by omega)
   refine q8 (i1) (h1) ⟨_,⟨hm,fun _=>hm2⟩,rfl⟩
  ·simp(disch:=omega)only[go_sem,c2]
   refine qD (jY l hl i h hi) ?_
   rintro r i1 h1 hi1 ⟨k1,hk1,rfl⟩
   simp(disch:=omega)only[go_sem]
   refine qD (jY l hl i1 h1 hi1) ?_
   rintro r i2 h2 hi2 ⟨k2,hk2,rfl⟩
   simp(disch:=omega)only[go_sem]
   refine qD (jY l hl i2 h2 hi2) ?_
   rintro r i3 h3 hi3 ⟨k3,hk3,rfl⟩
   simp(disch:=omega)only[go_sem]
   refine qD (jY l hl i3 h3 hi3) ?_
   rintro r i4 h4 hi4 ⟨k4,hk4,rfl⟩
   simp(disch:=omega)only[go_sem]
   refine⟨by omega,?_⟩
   have hm:=Int.emod_nonneg (k1*16777216+k2*65536+k3*256+k4) (show n≠0 by omega)
   have hm2:=Int.emod_lt_of_pos (k1*16777216+k2*65536+k3*256+k4) (show 0<n by omega)
   refine q8 (i4) (h4) ⟨_,⟨hm,fun _=>hm2⟩,rfl⟩
theorem zb(n:Int)(hn:n≤2^62):Con Tryz.prog 99 false [.pt 10000000 0,.v (.int .i64 n)] [.own 0 [.sl l.length (qp l),.v (.int .i64 i),.v (.int .i64 h)]] (Xd l fun r=>∃b:Bool,r=.v (.bool b)):=by
 refine Con.of_aw Tryz.func99 rfl Tryz.ntmps99 (by simp) (by simp) (by simp) (W.sound ?_)
 show @W Tryz.prog 9 ⟨_⟩ ⟨fun x σ=>@q9 _ _ _ ⟨_⟩ _ ⟨_⟩ x σ⟩ _ _
 simp(disch:=omega)only[go_sem]
 refine qD (qS l hl i h hi n hn) ?_
 rintro r i1 h1 hi1 ⟨k1,hk1,rfl⟩
 simp(disch:=omega)only[go_sem]
 refine q8 (i1) (h1) ⟨_,rfl⟩
theorem zI(xs:List Int)(h0:0<xs.length)(h1:xs.length≤2^40):Con Tryz.prog 101 false [.pt 10000000 0,.rf 10000001 0 xs.length] [.own 0 [.sl l.length (qp l),.v (.int .i64 i),.v (.int .i64 h)],.own 1 (qh xs)] (biA l xs fun r=>∃x∈xs,r=.v (.int .i64 x)):=by
 refine Con.of_aw Tryz.func101 rfl Tryz.ntmps101 (by simp) (by simp) (by simp) (W.sound ?_)
 show @W Tryz.prog 12 ⟨_⟩ ⟨fun x σ=>@q9 _ _ _ ⟨_⟩ _ ⟨_⟩ x σ⟩ _ _
 simp(disch:=omega)only[go_sem]
 refine qD (qS l hl i h hi xs.length (by omega)) ?_
 rintro r i1 h1 hi1 ⟨k1,hk1,rfl⟩
 simp(disch:=omega)only[go_sem]
 obtain⟨n1,rfl⟩:=Int.eq_ofNat_of_zero_le hk1.1
 have hlt:n1<xs.length:=by have:=hk1.2 (by omega);omega
 simp(disch:=omega)only[go_sem]
 refine⟨by omega,by omega,?_⟩
 have hm:xs.getD n1 0∈xs:=by rw[List.getD_eq_getElem?_getD,List.getElem?_eq_getElem hlt];exact List.getElem_mem _
 refine ql [] [] [.own 0 [.sl l.length (qp l),.v (.int .i64 i1),.v (.int .i64 h1)],.own 1 (qh xs)] [.v (.int .i64 (xs.getD n1 0))] rfl (by simp(disch:=omega)only[go_sem]) (by simp(disch:=omega)only[go_sem]) (by simp) (by simp) ⟨rfl,⟨_,hm,rfl⟩,_,_,by omega,rfl⟩
end
end Go.Ab
namespace Go.Ab
open Go Go.Proofs
section
variable (l:List UInt8)(hl:l.length≤9223372036854775807)(i h:Int)(hi:0≤i∧i≤l.length)
include hl hi
theorem YY:Con Tryz.prog 326 false [.pt 10000000 0] [.own 0 [.sl l.length (qp l),.v (.int .i64 i),.v (.int .i64 h)]] (Xd l fun r=>∃k:Int,(0≤k∧k≤100)∧r=.v (.int .i64 k)):=by
 refine Con.of_aw Tryz.func326 rfl Tryz.ntmps326 (by simp) (by simp) (by simp) (W.sound ?_)
 show @W Tryz.prog 10 ⟨_⟩ ⟨fun x σ=>@q9 _ _ _ ⟨_⟩ _ ⟨_⟩ x σ⟩ _ _
 simp(disch:=omega)only[go_sem]
 refine qD (zb l hl i h hi 12 (by omega)) ?_
 rintro r i1 h1 hi1 ⟨b,rfl⟩
 simp(disch:=omega)only[go_sem]
 cases b
 ·simp(disch:=omega)only[go_sem]
  refine qD (qS l hl i1 h1 hi1 6 (by omega)) ?_
  rintro r i2 h2 hi2 ⟨k,hk,rfl⟩
  simp(disch:=omega)only[go_sem]
  have:=hk.2 (by omega)
  refine q8 (i2) (h2) ⟨_,by omega,rfl⟩
 ·simp(disch:=omega)only[go_sem]
  refine jZ (zI l hl i1 h1 hi1 [100,99,50,20] (by simp) (by simp)) ?_
  rintro r i2 h2 hi2 ⟨x,hx,rfl⟩
  have hx_b:0≤x∧x≤100:=by
   simp only[List.mem_cons,List.not_mem_nil,or_false]at hx
   omega
  clear hx
  simp(disch:=omega)only[go_sem]
  refine q8 (i2) (h2) ⟨_,by omega,rfl⟩
theorem Yb:Con Tryz.prog 312 false [.pt 10000000 0] [.own 0 [.sl l.length (qp l),.v (.int .i64 i),.v (.int .i64 h)]] (fun r hs bs=>(∃m:Nat,bl m≤1600∧aIO m r hs [])∧∃i h:Int,(0≤i∧i≤l.length)∧bs=[.own 0 [.sl l.length (qp l),.v (.int .i64 i),.v (.int .i64 h)]]):=by
 refine Con.of_aw Tryz.func312 rfl Tryz.ntmps312 (by simp) (by simp) (by simp) (W.sound ?_)
 show @W Tryz.prog 38 ⟨_⟩ ⟨fun x σ=>@q9 _ _ _ ⟨_⟩ _ ⟨_⟩ x σ⟩ _ _
 simp(disch:=omega)only[go_sem]
 refine qD (YY l hl i h hi) ?_
 rintro r i1 h1 hi1 ⟨k,hk,rfl⟩
 simp(disch:=omega)only[go_sem]
 refine qc (fun x:Nat×List Int×Int×Int=>[(0,.pt 10000000 0),(2,.pt 2 0),(3,.rf 1 0 x.2.1.length),(4,.v (.int .i64 k)),(5,.v (.int .i64 x.1))])
  (fun x=>[(1,.own 1 (qh x.2.1)),(2,.own 0 [.v (.slice none 0 0)]),(10000000,.own 0 [.sl l.length (qp l),.v (.int .i64 x.2.2.1),.v (.int .i64 x.2.2.2)])])
  (fun x=>x.1≤k.toNat∧x.2.1.length=x.1∧gd x.2.1∧(0≤x.2.2.1∧x.2.2.1≤l.length)) (fun x=>k.toNat-x.1) (0,[],i1,h1) ⟨by simp,rfl,by simp[gd],hi1⟩
  ((Le.ghost 3 1 1 (by simp(disch:=omega)only[go_sem]) (by simp(disch:=omega)only[go_sem])).trans (Le.lst [(2,40000000)] _ _ rfl (by simp(disch:=omega)only[go_sem]) (by simp(disch:=omega)only[go_sem]))) ?_
 rintro⟨j,xs,i2,h2⟩ ⟨hj,hxl,hg,hi2⟩
 dsimp only at hj hxl hg hi2 ⊢
 simp(disch:=omega)only[go_sem]
 refine qe (fun c1=>?_) (fun c1=>?_)
 ·simp(disch:=omega)only[go_sem,c1]
  refine qD (qS l hl i2 h2 hi2 4 (by omega)) ?_
  rintro r i3 h3 hi3 ⟨q,hq,rfl⟩
  simp(disch:=omega)only[go_sem]
  by_cases q0:q=0
  ·simp(disch:=omega)only[go_sem,q0]
   exact⟨by omega,qa (j+1,xs++[65535],i3,h3) [(1,260000000)] ⟨by dsimp only;omega,by simp[hxl],qM.2 ⟨hg,by simp[gd]⟩,hi3⟩ (by show k.toNat-(j+1)<k.toNat-j;omega) rfl (by simp(disch:=omega)only[go_sem,List.length_append];try omega) (by simp(disch:=omega)only[go_sem])⟩
  by_cases q1:q=1
  ·simp(disch:=omega)only[go_sem,q0,q1]
   exact⟨by omega,qa (j+1,xs++[0],i3,h3) [(1,310000000)] ⟨by dsimp only;omega,by simp[hxl],qM.2 ⟨hg,by simp[gd]⟩,hi3⟩ (by show k.toNat-(j+1)<k.toNat-j;omega) rfl (by simp(disch:=omega)only[go_sem,List.length_append];try omega) (by simp(disch:=omega)only[go_sem])⟩
  simp(disch:=omega)only[go_sem,q0,q1]
  refine qD (qS l hl i3 h3 hi3 65536 (by omega)) ?_
  rintro r i4 h4 hi4 ⟨d,hd,rfl⟩
  simp(disch:=omega)only[go_sem]
  have hd2:=hd.2 (by omega)
  exact⟨by omega,qa (j+1,xs++[d],i4,h4) [(1,210000000)] ⟨by dsimp only;omega,by simp[hxl],qM.2 ⟨hg,QZ.2 ⟨by omega,by simp[gd]⟩⟩,hi4⟩ (by show k.toNat-(j+1)<k.toNat-j;omega) rfl (by simp(disch:=omega)only[go_sem,List.length_append];try omega) (by simp(disch:=omega)only[go_sem])⟩
 ·simp(disch:=omega)only[go_sem,c1]
  refine qD (zb l hl i2 h2 hi2 4 (by omega)) ?_
  rintro r i3 h3 hi3 ⟨b,rfl⟩
  simp(disch:=omega)only[go_sem]
  cases b
  ·simp(disch:=omega)only[go_sem]
   have hv:vl xs=((vl xs).toNat:Int):=(Int.toNat_of_nonneg (q7 hg)).symm
   have hb:bl (vl xs).toNat≤1600:=by
    refine zD.2 ?_
    have h1:=QN hg
    have h2:(65536:Int)^xs.length≤65536^100:=by
     rw[show(65536:Int)=((65536:Nat):Int) from rfl,←Int.natCast_pow,←Int.natCast_pow]
     exact Int.ofNat_le.2 (Nat.pow_le_pow_right (by omega) (by omega))
    have h3:(65536:Int)^100=((2^1600:Nat):Int):=by decide+kernel
    omega
   generalize (vl xs).toNat=m at*
   refine qy (jx true xs m (by omega) hg hv) (by simp(disch:=omega)only[go_sem]) ?_
   rintro r hs (⟨h0,rfl,rfl⟩|⟨zs,rfl,rfl⟩)
   ·refine⟨⟨by simp,by simp(disch:=omega)only[go_sem]⟩,?_⟩
    simp(disch:=omega)only[go_sem]
    refine ql [] [] [.own 0 [.sl l.length (qp l),.v (.int .i64 i3),.v (.int .i64 h3)]] [.ag [.v (.slice none 0 0)]] rfl (by simp(disch:=omega)only[go_sem]) (by simp(disch:=omega)only[go_sem]) (by simp) (by simp) ⟨⟨m,hb,.inl ⟨h0,rfl,rfl⟩⟩,_,_,hi3,rfl⟩
   ·refine⟨⟨by simp,by simp(disch:=omega)only[go_sem]⟩,?_⟩
    simp(disch:=omega)only[go_sem]
    refine ql [(0,390000000)] [.own 1 (qh (lim m++zs))] [.own 0 [.sl l.length (qp l),.v (.int .i64 i3),.v (.int .i64 h3)]] [.ag [.rf 0 0 (lim m).length]] rfl (by simp(disch:=omega)only[go_sem]) (by simp(disch:=omega)only[go_sem]) (by simp) (by simp) ⟨⟨m,hb,.inr ⟨zs,rfl,rfl⟩⟩,_,_,hi3,rfl⟩
  ·simp(disch:=omega)only[go_sem]
   refine jZ (zI l hl i3 h3 hi3 [0,1,2,9,10,65535,65536,1099511627776,4611686018427387903,4611686018427387904] (by simp) (by simp)) ?_
   rintro r i4 h4 hi4 ⟨x,hx,rfl⟩
   have hx_b:0≤x∧x≤4611686018427387904:=by
    simp only[List.mem_cons,List.not_mem_nil,or_false]at hx
    omega
   clear hx
   simp(disch:=omega)only[go_sem]
   obtain⟨n,rfl⟩:=Int.eq_ofNat_of_zero_le hx_b.1
   have hb:bl n≤1600:=Nat.le_trans (show bl n≤63 from zD.2 (by omega)) (by omega)
   refine qy (YX true n (by omega)) (by simp(disch:=omega)only[go_sem]) ?_
   rintro r hs (⟨h0,rfl,rfl⟩|⟨zs,rfl,rfl⟩)
   ·refine⟨⟨by simp,by simp(disch:=omega)only[go_sem]⟩,?_⟩
    simp(disch:=omega)only[go_sem]
    refine ql [] [] [.own 0 [.sl l.length (qp l),.v (.int .i64 i4),.v (.int .i64 h4)]] [.ag [.v (.slice none 0 0)]] rfl (by simp(disch:=omega)only[go_sem]) (by simp(disch:=omega)only[go_sem]) (by simp) (by simp) ⟨⟨n,hb,.inl ⟨h0,rfl,rfl⟩⟩,_,_,hi4,rfl⟩
   ·refine⟨⟨by simp,by simp(disch:=omega)only[go_sem]⟩,?_⟩
    simp(disch:=omega)only[go_sem]
    refine ql [(0,370000000)] [.own 1 (qh (lim n++zs))] [.own 0 [.sl l.length (qp l),.v (.int .i64 i4),.v (.int .i64 h4)]] [.ag [.rf 0 0 (lim n).length]] rfl (by simp(disch:=omega)only[go_sem]) (by simp(disch:=omega)only[go_sem]) (by simp) (by simp) ⟨⟨n,hb,.inr ⟨zs,rfl,rfl⟩⟩,_,_,hi4,rfl⟩
end
end Go.Ab
namespace Go.Ab
open Go Go.Proofs
end Go.Ab
namespace Go.Ab
open Go Go.Proofs
end Go.Ab
namespace Go.Ab
open Go Go.Proofs
def awV(s:Bool)(m e:Int):FlV:=if m<9007199254740991 then⟨1,s,m+1,e⟩else if e<971 then⟨1,s,4503599627370496,e+1⟩else⟨2,s,0,0⟩
def toV(k:Int)(s:Bool)(m e:Int):FlV:=if k=2 then⟨1,s,9007199254740991,971⟩else if 4503599627370496<m∨(e= -1074∧1<m)then⟨k,s,m-1,e⟩else if-1074<e then⟨k,s,9007199254740991,e-1⟩else⟨0,s,0,0⟩
def nxV(k:Int)(s:Bool)(m e:Int):FlV:=if k=3∨(k=2∧s=false)then⟨k,s,m,e⟩else if k=0 then⟨1,false,1, -1074⟩else if s=true then toV k s m e else awV s m e
def ulE(k e:Int):Int:=if k=0 then-1074 else e
end Go.Ab
namespace Go.Ab
structure Adj(k:Int)(s:Bool)(m e:Int)(n:FlV)(t:Bool)(a:Nat)(E:Int):Prop where
 ha:a<2^53
 hf:2^52≤a∨E= -1074
 hE: -1074≤E∧E≤971
 ho:¬(a+1=2^53∧E=971)
 hu:E≤ulE k e
 lo:dv 1074 (xS k s) m.toNat e=dv 1074 t (if t=true then a+1 else a) E
 hi:dv 1074 (xS n.k n.s) n.m.toNat n.e=dv 1074 t (if t=true then a else a+1) E
theorem blw:ngS 1 false=true:=rfl
theorem blu:ngS 1 true=false:=rfl
theorem blv:ngS 2 false=true:=rfl
end Go.Ab
namespace Go.Ab
open Go Go.Proofs
theorem asp{n:Nat}{e:Int}(hn:bl n≤1500)(he: -3000≤e∧e≤1400):jW n e=true:=by
 have q4:=yi (aFg n)
 have l1:=qI (m:=oM n) (B:=1500) (by omega)
 have q5: -3000≤oE n e∧oE n e≤3000:=by
  unfold oE
  by_cases h:n=0
  ·rw[if_pos h];omega
  ·rw[if_neg h];have:=yF h;omega
 unfold jW jS
 simp only[Bool.and_eq_true,decide_eq_true_eq]
 omega
def bkF(ok:Bool):AV→List Ob→List Ob→Prop:=fun r hs bs=>hs=[]∧bs=[]∧∃(S:Bool) (M:Nat) (E:Int) (b:Bool),dyB S (lim M) E=true∧(ok=false→b=false)∧r=.tu [.ag [.v (.bool (S)),.sl (lim (M)).length (qh (lim (M))),.v (.int .i64 (E))],.v (.bool b)]
end Go.Ab
namespace Go.Ab
def ivM(s:Bool)(m:Nat)(e mode:Int):Nat:=roM s m e 0 mode*2^(roE m e 0).toNat
end Go.Ab
namespace Go.Ab
open Go Go.Proofs
end Go.Ab
namespace Go.Ab
open Go Go.Proofs
end Go.Ab
namespace Go.Ab
open Go Go.Proofs
end Go.Ab
namespace Go.Ab
open Go Go.Proofs
def blD(k m:Int):Nat:=if k=1 then oM m.toNat else 0
def blE(k m e:Int):Int:=if k=1 then oE m.toNat e else 0
def blC(k:Int)(s:Bool)(m:Int):Bool:=if k=1 then oS (s&&decide (m.toNat≠0)) m.toNat else false
end Go.Ab
namespace Go.Ab
open Go Go.Proofs
def bkE:AV→List Ob→List Ob→Prop:=fun r hs bs=>hs=[]∧bs=[]∧∃x:FlV,r=.ag x.cs
section
variable (l:List UInt8)(hl:l.length≤9223372036854775807)(i h:Int)(hi:0≤i∧i≤l.length)
include hl hi
end
end Go.Ab
namespace Go.Ab
open Go Go.Proofs
section
variable (l:List UInt8)(hl:l.length≤9223372036854775807)(i h:Int)(hi:0≤i∧i≤l.length)
include hl hi
end
end Go.Ab
namespace Go.Ab
open Go
end Go.Ab
namespace Go.Ab
open Go Go.Proofs
end Go.Ab
namespace Go.Ab
open Go Go.Proofs
end Go.Ab
namespace Go.Ab
open Go Go.Proofs
section
variable (l:List UInt8)(hl:l.length≤9223372036854775807)(i h:Int)(hi:0≤i∧i≤l.length)
include hl hi
end
theorem as0(l:List UInt8)(hl:l.length≤9223372036854775807):Con Tryz.prog 66 false [.sl l.length (qp l)] [] (fun r hs bs=>r=.pt 0 0∧bs=[]∧∃h:Int,hs=[.own 0 [.sl l.length (qp l),.v (.int .i64 0),.v (.int .i64 h)]]):=by
 refine Con.of_aw Tryz.func66 rfl Tryz.ntmps66 (by simp) (by simp) (by simp) (W.sound ?_)
 show @W Tryz.prog 32 ⟨_⟩ ⟨fun x σ=>@q9 _ _ _ ⟨_⟩ _ ⟨_⟩ x σ⟩ _ _
 simp(disch:=omega)only[go_sem]
 refine qc (fun x:Nat×Int=>[(0,.sl l.length (qp l)),(3,.v (.int .i64 x.2)),(4,.v (.int .i64 x.1))]) (fun _=>[]) (fun x=>x.1≤l.length) (fun x=>l.length-x.1) (0,IntKind.i64.wrap (38282+l.length)) (by simp)
  (Le.lst [] _ _ rfl (by simp(disch:=omega)only[go_sem]) (by simp(disch:=omega)only[go_sem])) ?_
 rintro⟨i,h⟩ hi
 dsimp only at hi ⊢
 have hfin:∀l':List AV,l'=[.pt 0 0]→(fun r hs bs=>r=.pt 0 0∧bs=[]∧∃h:Int,hs=[.own 0 [.sl l.length (qp l),.v (.int .i64 0),.v (.int .i64 h)]]:AV→List Ob→List Ob→Prop) (zt l') [.own 0 [.sl l.length (qp l),.v (.int .i64 0),.v (.int .i64 h)]] []:=fun l' e=>by subst e;exact⟨rfl,rfl,h,rfl⟩
 by_cases h1:(i:Int)<l.length
 ·by_cases h2:(i:Int)<4000
  ·simp(disch:=omega)only[go_sem,h1,h2]
   generalize IntKind.i64.wrap (IntKind.i64.wrap (IntKind.i64.wrap (h*131)+IntKind.i64.wrap ((l.getD i 0).toNat:Int))+7) % 1073741824=h'
   exact⟨⟨by omega,by omega⟩,by omega,qa (i+1,h') [] (by show i+1≤_;omega) (by show l.length-(i+1)<l.length-i;omega) rfl (by simp(disch:=omega)only[go_sem];try omega) (by simp(disch:=omega)only[go_sem])⟩
  ·simp(disch:=omega)only[go_sem,h1,h2]
   refine ql [(0,330000000)] [.own 0 [.sl l.length (qp l),.v (.int .i64 0),.v (.int .i64 h)]] [] [.pt 0 0] rfl (by simp(disch:=omega)only[go_sem]) (by simp(disch:=omega)only[go_sem]) (by simp) (by simp) (hfin _ rfl)
 ·simp(disch:=omega)only[go_sem,h1]
  refine ql [(0,330000000)] [.own 0 [.sl l.length (qp l),.v (.int .i64 0),.v (.int .i64 h)]] [] [.pt 0 0] rfl (by simp(disch:=omega)only[go_sem]) (by simp(disch:=omega)only[go_sem]) (by simp) (by simp) (hfin _ rfl)
end Go.Ab
namespace Go.Ab
open Go Go.Proofs
end Go.Ab
namespace Go.Ab
open Go Go.Proofs
end Go.Ab
namespace Go.Ab
open Go Go.Proofs
end Go.Ab
namespace Go.Ab
open Go Go.Proofs
end Go.Ab
namespace Go.Ab
open Go Go.Proofs
theorem QM{s:Bool}{m:Nat}(h:(lim m).length≤100)(hs:m=0→s=false):zS s (lim m)=true:=by
 unfold zS
 rw[arx m h,Bool.true_and]
 by_cases h0:m=0
 ·rw[hs h0];rfl
 ·have:=y3 h0
  rw[decide_eq_false (show ¬(lim m).length=0 by omega),Bool.and_false];rfl
end Go.Ab
namespace Go.Ab
open Go Go.Proofs
def bfG(r:AV)(hs:List Ob)(xs:List Int):Prop:=(xs=[]∧r=.ag [.v (.slice none 0 0)]∧hs=[])∨∃zs,r=.ag [.rf 0 0 xs.length]∧hs=[.own 1 (qh (xs++zs))]
section
variable (l:List UInt8)(hl:l.length≤9223372036854775807)(i h:Int)(hi:0≤i∧i≤l.length)
include hl hi
theorem afe:Con Tryz.prog 275 false [.pt 10000000 0] [.own 0 [.sl l.length (qp l),.v (.int .i64 i),.v (.int .i64 h)]] (fun r hs bs=>(∃xs:List Int,xs.length≤200∧bfG r hs xs)∧∃i h:Int,(0≤i∧i≤l.length)∧bs=[.own 0 [.sl l.length (qp l),.v (.int .i64 i),.v (.int .i64 h)]]):=by
 refine Con.of_aw Tryz.func275 rfl Tryz.ntmps275 (by simp) (by simp) (by simp) (W.sound ?_)
 show @W Tryz.prog 43 ⟨_⟩ ⟨fun x σ=>@q9 _ _ _ ⟨_⟩ _ ⟨_⟩ x σ⟩ _ _
 simp(disch:=omega)only[go_sem]
 refine yD false [10000000] (Yb l hl i h hi) (by simp(disch:=omega)only[go_sem]) (by simp(disch:=omega)only[go_sem]) rfl (qW (z:=0) (cs:=[.sl l.length (qp l),.v (.int .i64 i),.v (.int .i64 h)]) (by simp(disch:=omega)only[go_sem]) (by simp(disch:=omega)only[go_sem])) (by intro n hn;exact⟨_,List.mem_cons_self ..,by rw[List.mem_singleton.1 hn];rfl⟩) ?_
 rintro r hs bs ⟨⟨m,hb,(⟨h0,rfl,rfl⟩|⟨zs,rfl,rfl⟩)⟩,i1,h1,hi1,rfl⟩-
 ·refine⟨by simp[qG],?_⟩
  simp(disch:=omega)only[go_sem]
  refine qD (zb l hl i1 h1 hi1 9 (by omega)) ?_
  rintro r i2 h2 hi2 ⟨b,rfl⟩
  simp(disch:=omega)only[go_sem]
  cases b
  ·simp(disch:=omega)only[go_sem]
   refine ql [] [] [.own 0 [.sl l.length (qp l),.v (.int .i64 i2),.v (.int .i64 h2)]] [.ag [.v (.slice none 0 0)]] rfl (by simp(disch:=omega)only[go_sem]) (by simp(disch:=omega)only[go_sem]) (by simp) (by simp) ⟨⟨[],by simp,.inl ⟨rfl,rfl,rfl⟩⟩,_,_,hi2,rfl⟩
  ·simp(disch:=omega)only[go_sem]
   refine qD (qS l hl i2 h2 hi2 4 (by omega)) ?_
   rintro r i3 h3 hi3 ⟨q,hq,rfl⟩
   simp(disch:=omega)only[go_sem]
   by_cases c0:q=0
   ·simp(disch:=omega)only[go_sem,c0]
    refine ql [(0,280000000)] [.own 1 (qh ([0]++[]))] [.own 0 [.sl l.length (qp l),.v (.int .i64 i3),.v (.int .i64 h3)]] [.ag [.rf 0 0 1]] rfl (by simp(disch:=omega)only[go_sem]) (by simp(disch:=omega)only[go_sem];rfl) (by simp) (by simp) ⟨⟨[0],by simp,.inr ⟨[],rfl,rfl⟩⟩,_,_,hi3,rfl⟩
   by_cases c1:q=1
   ·simp(disch:=omega)only[go_sem,c0,c1]
    refine ql [(0,350000000)] [.own 1 (qh ([-1]++[]))] [.own 0 [.sl l.length (qp l),.v (.int .i64 i3),.v (.int .i64 h3)]] [.ag [.rf 0 0 1]] rfl (by simp(disch:=omega)only[go_sem]) (by simp(disch:=omega)only[go_sem];rfl) (by simp) (by simp) ⟨⟨[-1],by simp,.inr ⟨[],rfl,rfl⟩⟩,_,_,hi3,rfl⟩
   by_cases c2:q=2
   ·simp(disch:=omega)only[go_sem,c0,c1,c2]
    refine ql [(0,420000000)] [.own 1 (qh ([65536]++[]))] [.own 0 [.sl l.length (qp l),.v (.int .i64 i3),.v (.int .i64 h3)]] [.ag [.rf 0 0 1]] rfl (by simp(disch:=omega)only[go_sem]) (by simp(disch:=omega)only[go_sem];rfl) (by simp) (by simp) ⟨⟨[65536],by simp,.inr ⟨[],rfl,rfl⟩⟩,_,_,hi3,rfl⟩
   simp(disch:=omega)only[go_sem,c0,c1,c2]
   refine qc (fun x:List Int×List Int=>[(2,.pt 4 0),(3,.pt 3 0)]) (fun x=>[(1,.own 1 (qh (x.1++x.2))),(3,.own 0 [.rf 1 0 x.1.length]),(4,.own 0 [.v (.slice none 0 0)]),(10000000,.own 0 [.sl l.length (qp l),.v (.int .i64 i3),.v (.int .i64 h3)])])
    (fun x=>x.1.length≤101) (fun x=>101-x.1.length) ([],[])
    (by simp) ((Le.ghostC 50000000 0 1 1 (zo:=0) (cs:=[.v (.slice none 0 0)]) (by simp(disch:=omega)only[go_sem]) rfl (by simp(disch:=omega)only[go_sem])).trans (Le.lst [(3,50000000),(4,40000000)] _ _ rfl (by simp(disch:=omega)only[go_sem]) (by simp(disch:=omega)only[go_sem,List.set_cons_zero]))) ?_
   rintro⟨xs,ys⟩ hx
   dsimp only at hx ⊢
   simp(disch:=omega)only[go_sem]
   refine qe (fun c3=>?_) (fun c3=>?_)
   ·simp(disch:=omega)only[go_sem,c3]
    exact⟨⟨by simp,by omega⟩,qa (xs++[1],[]) [(1,210000000)] (by simp;omega) (by simp;omega) rfl (by simp(disch:=omega)only[go_sem,List.length_append];try omega) (by simp(disch:=omega)only[go_sem,List.length_append,List.append_nil,List.take_left])⟩
   ·simp(disch:=omega)only[go_sem,c3]
    refine ql [(0,1)] [.own 1 (qh (xs++ys))] [.own 0 [.sl l.length (qp l),.v (.int .i64 i3),.v (.int .i64 h3)]] [.ag [.rf 0 0 xs.length]] rfl (by simp(disch:=omega)only[go_sem]) (by simp(disch:=omega)only[go_sem]) (by simp) (by simp) ⟨⟨xs,by omega,.inr ⟨ys,rfl,rfl⟩⟩,_,_,hi3,rfl⟩
 ·have hx:=qI (m:=m) (B:=1600) hb
  refine⟨by simp[qG];simp(disch:=omega)only[go_sem],?_⟩
  simp(disch:=omega)only[go_sem]
  refine qD (zb l hl i1 h1 hi1 9 (by omega)) ?_
  rintro r i2 h2 hi2 ⟨b,rfl⟩
  simp(disch:=omega)only[go_sem]
  cases b
  ·simp(disch:=omega)only[go_sem]
   refine ql [(0,70000000)] [.own 1 (qh (lim m++zs))] [.own 0 [.sl l.length (qp l),.v (.int .i64 i2),.v (.int .i64 h2)]] [.ag [.rf 0 0 (lim m).length]] rfl (by simp(disch:=omega)only[go_sem]) (by simp(disch:=omega)only[go_sem]) (by simp) (by simp) ⟨⟨lim m,by have:=qI (m:=m) (B:=1600) hb;omega,.inr ⟨zs,rfl,rfl⟩⟩,_,_,hi2,rfl⟩
  ·simp(disch:=omega)only[go_sem]
   refine qD (qS l hl i2 h2 hi2 4 (by omega)) ?_
   rintro r i3 h3 hi3 ⟨q,hq,rfl⟩
   simp(disch:=omega)only[go_sem]
   by_cases c0:q=0
   ·simp(disch:=omega)only[go_sem,c0]
    exact⟨⟨by simp,by omega⟩,ql [(0,280000000)] [.own 1 (qh (lim m++[0]++[]))] [.own 0 [.sl l.length (qp l),.v (.int .i64 i3),.v (.int .i64 h3)]] [.ag [.rf 0 0 ((lim m).length+1)]] rfl (by simp(disch:=omega)only[go_sem]) (by simp(disch:=omega)only[go_sem,List.take_left',List.append_nil]) (by simp) (by simp) ⟨⟨lim m++[0],by simp;omega,.inr ⟨[],by rw[List.length_append];rfl,rfl⟩⟩,_,_,hi3,rfl⟩⟩
   by_cases c1:q=1
   ·simp(disch:=omega)only[go_sem,c0,c1]
    exact⟨⟨by simp,by omega⟩,ql [(0,350000000)] [.own 1 (qh (lim m++[-1]++[]))] [.own 0 [.sl l.length (qp l),.v (.int .i64 i3),.v (.int .i64 h3)]] [.ag [.rf 0 0 ((lim m).length+1)]] rfl (by simp(disch:=omega)only[go_sem]) (by simp(disch:=omega)only[go_sem,List.take_left',List.append_nil]) (by simp) (by simp) ⟨⟨lim m++[-1],by simp;omega,.inr ⟨[],by rw[List.length_append];rfl,rfl⟩⟩,_,_,hi3,rfl⟩⟩
   by_cases c2:q=2
   ·simp(disch:=omega)only[go_sem,c0,c1,c2]
    exact⟨⟨by simp,by omega⟩,ql [(0,420000000)] [.own 1 (qh (lim m++[65536]++[]))] [.own 0 [.sl l.length (qp l),.v (.int .i64 i3),.v (.int .i64 h3)]] [.ag [.rf 0 0 ((lim m).length+1)]] rfl (by simp(disch:=omega)only[go_sem]) (by simp(disch:=omega)only[go_sem,List.take_left',List.append_nil]) (by simp) (by simp) ⟨⟨lim m++[65536],by simp;omega,.inr ⟨[],by rw[List.length_append];rfl,rfl⟩⟩,_,_,hi3,rfl⟩⟩
   simp(disch:=omega)only[go_sem,c0,c1,c2]
   refine qc (fun x:List Int×List Int=>[(2,.pt 4 0),(3,.pt 3 0)]) (fun x=>[(1,.own 1 (qh (x.1++x.2))),(3,.own 0 [.rf 1 0 x.1.length]),(4,.own 0 [.v (.slice none 0 0)]),(10000000,.own 0 [.sl l.length (qp l),.v (.int .i64 i3),.v (.int .i64 h3)])])
    (fun x=>x.1.length≤101) (fun x=>101-x.1.length) (lim m,zs)
    (by show(lim m).length≤101;omega) (Le.lst [(3,50000000),(4,40000000),(1,70000000)] _ _ rfl (by simp(disch:=omega)only[go_sem]) (by simp(disch:=omega)only[go_sem])) ?_
   rintro⟨xs,ys⟩ hx
   dsimp only at hx ⊢
   simp(disch:=omega)only[go_sem]
   refine qe (fun c3=>?_) (fun c3=>?_)
   ·simp(disch:=omega)only[go_sem,c3]
    exact⟨⟨by simp,by omega⟩,qa (xs++[1],[]) [(1,210000000)] (by simp;omega) (by simp;omega) rfl (by simp(disch:=omega)only[go_sem,List.length_append];try omega) (by simp(disch:=omega)only[go_sem,List.length_append,List.append_nil,List.take_left])⟩
   ·simp(disch:=omega)only[go_sem,c3]
    refine ql [(0,1)] [.own 1 (qh (xs++ys))] [.own 0 [.sl l.length (qp l),.v (.int .i64 i3),.v (.int .i64 h3)]] [.ag [.rf 0 0 xs.length]] rfl (by simp(disch:=omega)only[go_sem]) (by simp(disch:=omega)only[go_sem]) (by simp) (by simp) ⟨⟨xs,by omega,.inr ⟨ys,rfl,rfl⟩⟩,_,_,hi3,rfl⟩
omit hi hl in
theorem Con.cur{f:Nat}{args:List AV}{Q:AV→List Ob→Prop}{Q':AV→Prop}(hc:Con Tryz.prog f false args [.own 0 [.sl l.length (qp l),.v (.int .i64 i),.v (.int .i64 h)]] (fun r hs bs=>Q r hs∧∃i h:Int,(0≤i∧i≤l.length)∧bs=[.own 0 [.sl l.length (qp l),.v (.int .i64 i),.v (.int .i64 h)]]))
  (hq:∀r hs,Q r hs→(∀ob∈hs,ob.men fun _=>False)∧Q' (qN (rhp hs []) 6 r)):Con Tryz.prog f false args [.own 0 [.sl l.length (qp l),.v (.int .i64 i),.v (.int .i64 h)]] (Xd l Q'):=
 (Con.frzB hc (by
  rintro r hs bs ⟨h1,i,h, -,rfl⟩
  exact⟨by simp[Ob.men,AllL,AV.All],(hq r hs h1).1⟩)).mono fun r hs bs=>by
   rintro⟨rfl,r0,hs0,⟨h1,h2⟩,rfl⟩
   exact⟨rfl,(hq _ _ h1).2,h2⟩
omit hi hl in
theorem Con.curF{f:Nat}{args:List AV}{Q Q':AV→Prop}(hc:Con Tryz.prog f false args [.own 0 [.sl l.length (qp l),.v (.int .i64 i),.v (.int .i64 h)]] (Xd l Q))(hq:∀r,Q r→Q' (qN (rhp [] []) 6 r)):
  Con Tryz.prog f false args [.own 0 [.sl l.length (qp l),.v (.int .i64 i),.v (.int .i64 h)]] (Xd l Q'):=
 Con.cur l i h (Q:=fun r hs=>hs=[]∧Q r) (hc.mono fun r hs bs ⟨h1,h2,h3⟩=>⟨⟨h1,h2⟩,h3⟩) fun r hs ⟨h1,h2⟩=>by subst h1;exact⟨by simp,hq r h2⟩
omit hi hl in
theorem Zw{r:AV}{hs:List Ob}{xs:List Int}(h:bfG r hs xs):(∀ob∈hs,ob.men fun _=>False)∧qN (rhp hs []) 6 r=.ag [.sl xs.length (qh xs)]:=by
 rcases h with⟨rfl,rfl,rfl⟩|⟨zs,rfl,rfl⟩
 ·exact⟨by simp,rfl⟩
 ·refine⟨by intro ob ho;rw[List.mem_singleton.1 ho];exact ZB,?_⟩
  show AV.ag [qN _ 5 (.rf 0 0 xs.length)]=_
  rw[j8 zg rfl]
theorem afd:Con Tryz.prog 312 false [.pt 10000000 0] [.own 0 [.sl l.length (qp l),.v (.int .i64 i),.v (.int .i64 h)]] (Xd l fun r=>∃m:Nat,bl m≤1600∧r=.ag [.sl (lim (m)).length (qh (lim (m)))]):=
 Con.cur l i h (Yb l hl i h hi) fun r hs ⟨m,hb,hr⟩=>by
  have:bfG r hs (lim m):=hr.elim (fun⟨h0,h1,h2⟩=>.inl ⟨by rw[h0,qt],h1,h2⟩) .inr
  exact⟨(Zw this).1,m,hb,(Zw this).2⟩
theorem alv:Con Tryz.prog 275 false [.pt 10000000 0] [.own 0 [.sl l.length (qp l),.v (.int .i64 i),.v (.int .i64 h)]] (Xd l fun r=>∃xs:List Int,xs.length≤200∧r=.ag [.sl xs.length (qh xs)]):=
 Con.cur l i h (afe l hl i h hi) fun r hs ⟨xs,hb,hr⟩=>⟨(Zw hr).1,xs,hb,(Zw hr).2⟩
theorem J8:Con Tryz.prog 274 false [.pt 10000000 0] [.own 0 [.sl l.length (qp l),.v (.int .i64 i),.v (.int .i64 h)]] (Xd l fun r=>∃(s:Bool) (m:Nat),bl m≤1600∧r=.ag [.v (.bool (s&&decide (m≠0))),.sl (lim (m)).length (qh (lim (m)))]):=by
 refine Con.of_aw Tryz.func274 rfl Tryz.ntmps274 (by simp) (by simp) (by simp) (W.sound ?_)
 show @W Tryz.prog 8 ⟨_⟩ ⟨fun x σ=>@q9 _ _ _ ⟨_⟩ _ ⟨_⟩ x σ⟩ _ _
 simp(disch:=omega)only[go_sem]
 refine qD (zb l hl i h hi 2 (by omega)) ?_
 rintro r i1 h1 hi1 ⟨b,rfl⟩
 simp(disch:=omega)only[go_sem]
 refine qD (afd l hl i1 h1 hi1) ?_
 rintro r i2 h2 hi2 ⟨m,hm,rfl⟩
 simp(disch:=omega)only[go_sem]
 have hx:=qI (m:=m) (B:=1600) hm
 refine qb (zH b m (by omega)) ?_
 simp(disch:=omega)only[go_sem]
 refine q8 (i2) (h2) ⟨b,m,hm,rfl⟩
theorem alt:Con Tryz.prog 204 false [.pt 10000000 0] [.own 0 [.sl l.length (qp l),.v (.int .i64 i),.v (.int .i64 h)]] (Xd l fun r=>∃(s:Bool) (xs:List Int),xs.length≤200∧r=.ag [.v (.bool s),.sl xs.length (qh xs)]):=by
 refine Con.curF (Q:=fun r=>∃(s:Bool) (xs:List Int),xs.length≤200∧(r=.ag [.v (.bool s),.sl xs.length (qh xs)]∨(xs=[]∧r=.ag [.v (.bool s),.v (.slice none 0 0)]))) l i h ?_ (fun r ⟨s,xs,h1,h2⟩=>⟨s,xs,h1,h2.elim (fun h=>by rw[h];rfl) fun⟨h,h'⟩=>by rw[h,h'];rfl⟩)
 refine Con.of_aw Tryz.func204 rfl Tryz.ntmps204 (by simp) (by simp) (by simp) (W.sound ?_)
 show @W Tryz.prog 15 ⟨_⟩ ⟨fun x σ=>@q9 _ _ _ ⟨_⟩ _ ⟨_⟩ x σ⟩ _ _
 simp(disch:=omega)only[go_sem]
 refine qD (J8 l hl i h hi) ?_
 rintro r i1 h1 hi1 ⟨s,m,hm,rfl⟩
 simp(disch:=omega)only[go_sem]
 have hx:=qI (m:=m) (B:=1600) hm
 refine qD (zb l hl i1 h1 hi1 9 (by omega)) ?_
 rintro r i2 h2 hi2 ⟨b,rfl⟩
 simp(disch:=omega)only[go_sem]
 cases b
 ·simp(disch:=omega)only[go_sem]
  refine q8 (i2) (h2) ⟨_,lim m,by omega,.inl rfl⟩
 ·simp(disch:=omega)only[go_sem]
  refine qD (zb l hl i2 h2 hi2 2 (by omega)) ?_
  rintro r i3 h3 hi3 ⟨b,rfl⟩
  simp(disch:=omega)only[go_sem]
  cases b
  ·simp(disch:=omega)only[go_sem]
   refine qD (alv l hl i3 h3 hi3) ?_
   rintro r i4 h4 hi4 ⟨xs,hxs,rfl⟩
   simp(disch:=omega)only[go_sem]
   refine q8 (i4) (h4) ⟨_,xs,hxs,.inl rfl⟩
  ·simp(disch:=omega)only[go_sem]
   refine q8 (i3) (h3) ⟨true,[],by simp,.inr ⟨rfl,rfl⟩⟩
omit hi hl in
theorem YP:AV.ag [.v (.bool false),.sl 0 [],.v (.int .i64 0)]=.ag [.v (.bool (ex0).s),.sl (lim (ex0).m).length (qh (lim (ex0).m)),.v (.int .i64 (ex0).e)]:=by
 show _=AV.ag [.v (.bool false),.sl (lim 0).length (qh (lim 0)),.v (.int .i64 0)]
 rw[qt];rfl
omit hi hl in
theorem yB(x:ExV)(h:zS x.s (lim x.m)=true)(he: -12000≤x.e∧x.e≤12000):Con Tryz.prog 78 false [.ag [.v (.bool (x.s)),.sl (lim (x.m)).length (qh (lim (x.m)))],.v (.int .i64 x.e)] [] (isA (.tu [.ag [.v (.bool (x.tel).s),.sl (lim (x.tel).m).length (qh (lim (x.tel).m)),.v (.int .i64 (x.tel).e)],.v (.bool x.fit)])):=by
 have c:=aa9 x.s x.m x.e h he
 rw[show jW x.m x.e=x.fit from rfl]at c
 unfold ExV.tel
 cases hf:x.fit<;>rw[hf]at c<;>exact c
omit hi hl in
theorem aOW{m:Nat}(h:bl m≤1600):(lim m).length≤100:=jK.2 (Nat.lt_of_lt_of_eq (zD.1 h) (by decide+kernel))
theorem J7:Con Tryz.prog 203 false [.pt 10000000 0] [.own 0 [.sl l.length (qp l),.v (.int .i64 i),.v (.int .i64 h)]] (Xd l fun r=>∃x:ExV,x.ok=true∧r=.ag [.v (.bool (x).s),.sl (lim (x).m).length (qh (lim (x).m)),.v (.int .i64 (x).e)]):=by
 refine Con.curF (Q:=fun r=>∃x:ExV,x.ok=true∧qN (rhp [] []) 6 r=.ag [.v (.bool (x).s),.sl (lim (x).m).length (qh (lim (x).m)),.v (.int .i64 (x).e)]) l i h ?_ fun _ h=>h
 refine Con.of_aw Tryz.func203 rfl Tryz.ntmps203 (by simp) (by simp) (by simp) (W.sound ?_)
 show @W Tryz.prog 33 ⟨_⟩ ⟨fun x σ=>@q9 _ _ _ ⟨_⟩ _ ⟨_⟩ x σ⟩ _ _
 simp(disch:=omega)only[go_sem]
 refine qD (J8 l hl i h hi) ?_
 rintro r i1 h1 hi1 ⟨s,m,hm,rfl⟩
 simp(disch:=omega)only[go_sem]
 have hx:=qI (m:=m) (B:=1600) hm
 refine qD (zb l hl i1 h1 hi1 3 (by omega)) ?_
 rintro r i2 h2 hi2 ⟨b,rfl⟩
 simp(disch:=omega)only[go_sem]
 have ww:∀(s:Bool) (m:Nat),bl m≤1600→zS (s&&decide (m≠0)) (lim m)=true:=fun s m hm=>QM (aOW hm) (by intro h;simp[h])
 cases b
 ·simp(disch:=omega)only[go_sem]
  refine qD (qS l hl i2 h2 hi2 24 (by omega)) ?_
  rintro r i3 h3 hi3 ⟨k,hk,rfl⟩
  simp(disch:=omega)only[go_sem]
  have hk2:=hk.2 (by omega)
  refine qD (zb l hl i3 h3 hi3 6 (by omega)) ?_
  rintro r i4 h4 hi4 ⟨b,rfl⟩
  simp(disch:=omega)only[go_sem]
  cases b
  ·simp(disch:=omega)only[go_sem]
   refine qb (yB ⟨s&&decide (m≠0),m,k-12⟩ (ww s m hm) (by show-12000≤k-12∧k-12≤12000;omega)) ?_
   simp(disch:=omega)only[go_sem]
   have ok:=afM ⟨s&&decide (m≠0),m,k-12⟩
   generalize ExV.tel ⟨s&&decide (m≠0),m,k-12⟩=y at*
   cases hf:ExV.fit ⟨s&&decide (m≠0),m,k-12⟩
   ·simp(disch:=omega)only[go_sem,hf]
    refine q8 (i4) (h4) ⟨ex0,aaJ,by simp(disch:=omega)only[go_sem];exact YP⟩
   ·simp(disch:=omega)only[go_sem,hf]
    refine q8 (i4) (h4) ⟨y,ok,by simp(disch:=omega)only[go_sem]⟩
  ·simp(disch:=omega)only[go_sem]
   refine jZ (zI l hl i4 h4 hi4 [0, -60,60, -1074,900, -2990,2990, -100] (by simp) (by simp)) ?_
   rintro r i5 h5 hi5 ⟨x,hx,rfl⟩
   have hx_b: -3000≤x∧x≤3000:=by
    simp only[List.mem_cons,List.not_mem_nil,or_false]at hx
    omega
   clear hx
   simp(disch:=omega)only[go_sem]
   refine qb (yB ⟨s&&decide (m≠0),m,x⟩ (ww s m hm) (by show-12000≤x∧x≤12000;omega)) ?_
   simp(disch:=omega)only[go_sem]
   have ok:=afM ⟨s&&decide (m≠0),m,x⟩
   generalize ExV.tel ⟨s&&decide (m≠0),m,x⟩=y at*
   cases hf:ExV.fit ⟨s&&decide (m≠0),m,x⟩
   ·simp(disch:=omega)only[go_sem,hf]
    refine q8 (i5) (h5) ⟨ex0,aaJ,by simp(disch:=omega)only[go_sem];exact YP⟩
   ·simp(disch:=omega)only[go_sem,hf]
    refine q8 (i5) (h5) ⟨y,ok,by simp(disch:=omega)only[go_sem]⟩
 ·simp(disch:=omega)only[go_sem]
  refine qD (qS l hl i2 h2 hi2 40 (by omega)) ?_
  rintro r i3 h3 hi3 ⟨q,hq,rfl⟩
  simp(disch:=omega)only[go_sem]
  have hq2:=hq.2 (by omega)
  refine qb (YW (q-20) (by omega)) ?_
  simp(disch:=omega)only[go_sem]
  have wq:zS (decide (q-20<0)) (lim (q-20).natAbs)=true:=QM (by have:=qI (m:=(q-20).natAbs) (B:=6) (zD.2 (by omega));omega) (by intro h;simp;omega)
  refine qD (qS l hl i3 h3 hi3 24 (by omega)) ?_
  rintro r i4 h4 hi4 ⟨k,hk,rfl⟩
  simp(disch:=omega)only[go_sem]
  have hk2:=hk.2 (by omega)
  refine qD (zb l hl i4 h4 hi4 6 (by omega)) ?_
  rintro r i5 h5 hi5 ⟨b,rfl⟩
  simp(disch:=omega)only[go_sem]
  cases b
  ·simp(disch:=omega)only[go_sem]
   refine qb (yB ⟨decide (q-20<0),(q-20).natAbs,k-12⟩ (wq) (by show-12000≤k-12∧k-12≤12000;omega)) ?_
   simp(disch:=omega)only[go_sem]
   have ok:=afM ⟨decide (q-20<0),(q-20).natAbs,k-12⟩
   generalize ExV.tel ⟨decide (q-20<0),(q-20).natAbs,k-12⟩=y at*
   cases hf:ExV.fit ⟨decide (q-20<0),(q-20).natAbs,k-12⟩
   ·simp(disch:=omega)only[go_sem,hf]
    refine q8 (i5) (h5) ⟨ex0,aaJ,by simp(disch:=omega)only[go_sem];exact YP⟩
   ·simp(disch:=omega)only[go_sem,hf]
    refine q8 (i5) (h5) ⟨y,ok,by simp(disch:=omega)only[go_sem]⟩
  ·simp(disch:=omega)only[go_sem]
   refine jZ (zI l hl i5 h5 hi5 [0, -60,60, -1074,900, -2990,2990, -100] (by simp) (by simp)) ?_
   rintro r i6 h6 hi6 ⟨x,hx,rfl⟩
   have hx_b: -3000≤x∧x≤3000:=by
    simp only[List.mem_cons,List.not_mem_nil,or_false]at hx
    omega
   clear hx
   simp(disch:=omega)only[go_sem]
   refine qb (yB ⟨decide (q-20<0),(q-20).natAbs,x⟩ (wq) (by show-12000≤x∧x≤12000;omega)) ?_
   simp(disch:=omega)only[go_sem]
   have ok:=afM ⟨decide (q-20<0),(q-20).natAbs,x⟩
   generalize ExV.tel ⟨decide (q-20<0),(q-20).natAbs,x⟩=y at*
   cases hf:ExV.fit ⟨decide (q-20<0),(q-20).natAbs,x⟩
   ·simp(disch:=omega)only[go_sem,hf]
    refine q8 (i6) (h6) ⟨ex0,aaJ,by simp(disch:=omega)only[go_sem];exact YP⟩
   ·simp(disch:=omega)only[go_sem,hf]
    refine q8 (i6) (h6) ⟨y,ok,by simp(disch:=omega)only[go_sem]⟩
theorem alr:Con Tryz.prog 110 false [.pt 10000000 0] [.own 0 [.sl l.length (qp l),.v (.int .i64 i),.v (.int .i64 h)]] (Xd l fun r=>∃d:DyV,d.xs.length≤200∧r=.ag d.cs):=by
 refine Con.of_aw Tryz.func110 rfl Tryz.ntmps110 (by simp) (by simp) (by simp) (W.sound ?_)
 show @W Tryz.prog 28 ⟨_⟩ ⟨fun x σ=>@q9 _ _ _ ⟨_⟩ _ ⟨_⟩ x σ⟩ _ _
 simp(disch:=omega)only[go_sem]
 refine qD (J7 l hl i h hi) ?_
 rintro r i1 h1 hi1 ⟨x,hx,rfl⟩
 simp(disch:=omega)only[go_sem]
 have lx:=(Qu hx).2.2.1
 refine qD (zb l hl i1 h1 hi1 9 (by omega)) ?_
 rintro r i2 h2 hi2 ⟨b,rfl⟩
 simp(disch:=omega)only[go_sem]
 cases b
 ·simp(disch:=omega)only[go_sem]
  refine q8 (i2) (h2) ⟨⟨x.s,lim x.m,x.e⟩,by show(lim x.m).length≤200;omega,rfl⟩
 ·simp(disch:=omega)only[go_sem]
  refine qD (qS l hl i2 h2 hi2 3 (by omega)) ?_
  rintro r i3 h3 hi3 ⟨q,hq,rfl⟩
  simp(disch:=omega)only[go_sem]
  by_cases c0:q=0
  ·simp(disch:=omega)only[go_sem,c0]
   refine jZ (zI l hl i3 h3 hi3 [-3001,3001,3000,4611686018427387904] (by simp) (by simp)) ?_
   rintro r i4 h4 hi4 ⟨y,hy,rfl⟩
   clear hy
   simp(disch:=omega)only[go_sem]
   refine q8 (i4) (h4) ⟨⟨x.s,lim x.m,y⟩,by show(lim x.m).length≤200;omega,rfl⟩
  by_cases c1:q=1
  ·simp(disch:=omega)only[go_sem,c0,c1]
   refine qD (alt l hl i3 h3 hi3) ?_
   rintro r i4 h4 hi4 ⟨s,xs,hxs,rfl⟩
   simp(disch:=omega)only[go_sem]
   refine q8 (i4) (h4) ⟨⟨s,xs,x.e⟩,hxs,rfl⟩
  simp(disch:=omega)only[go_sem,c0,c1]
  refine q8 (i3) (h3) ⟨⟨!x.s,lim x.m,x.e⟩,by show(lim x.m).length≤200;omega,rfl⟩
end
theorem als(x y:ExV)(hx:x.bd (-400000) 400000)(hy:y.bd (-400000) 400000):Con Tryz.prog 181 false [.ag [.v (.bool (x).s),.sl (lim (x).m).length (qh (lim (x).m)),.v (.int .i64 (x).e)],.ag [.v (.bool (y).s),.sl (lim (y).m).length (qh (lim (y).m)),.v (.int .i64 (y).e)]] [] (isA (.ag [.v (.bool ((x.plus y).can).s),.sl (lim ((x.plus y).can).m).length (qh (lim ((x.plus y).can).m)),.v (.int .i64 ((x.plus y).can).e)])):=by
 obtain⟨z1,a1,a2⟩:=hx
 obtain⟨z2,b1,b2⟩:=hy
 exact asT x.s x.m x.e y.s y.m y.e (by omega) (by omega) (by omega) (by omega) z1 z2
end Go.Ab
namespace Go.Ab
open Go Go.Proofs
def bk0(x y:ExV):ExV:=if x.val 3000≤y.val 3000 then x else y
def bkW(x y:ExV):ExV:=if y.val 3000≤x.val 3000 then x else y
section
variable (l:List UInt8)(hl:l.length≤9223372036854775807)(i h:Int)(hi:0≤i∧i≤l.length)
include hl hi
end
end Go.Ab
namespace Go.Ab
open Go Go.Proofs
/-! ### Rounding down and up-/
def rnF(s:Bool)(a b:Nat)(low mode:Int):FlV:=⟨flK s mode (rq s a b mode) low,s,bhM s mode (rq s a b mode) low,bhN s mode (rq s a b mode) low⟩
def upQ(a b:Nat):Nat:=if a % b=0 then a/b else a/b+1
def isN(F:FlV):Bool:=decide (F.k=0)||decide (F.k=1)
def rqB(s:Bool)(a b:Nat)(low mode:Int):Prop:=rq s a b mode≠0∧1024<(bl (rq s a b mode):Int)+low
end Go.Ab
namespace Go.Ab
def stk(A B:Nat):Nat:=2*(A/B)+(if A % B=0 then 0 else 1)
end Go.Ab
namespace Go.Ab
def rtB(a:Nat):Nat→Nat
 |0=>0
 |n+1=>if(n+1)*(n+1)≤a then n+1 else rtB a n
def rt(a:Nat):Nat:=rtB a a
end Go.Ab
namespace Go.Ab
open Go Go.Proofs
end Go.Ab
namespace Go.Ab
open Go Go.Proofs
/-! ### A root,rounded-/
def stR(A S:Nat):Nat:=rt (A/S)*4+(if rt (A/S)*rt (A/S)*S=A then 0 else if A*4<(2*rt (A/S)+1)*(2*rt (A/S)+1)*S then 1 else if A*4=(2*rt (A/S)+1)*(2*rt (A/S)+1)*S then 2 else 3)
end Go.Ab
namespace Go.Ab
open Go Go.Proofs
def sqT(m:Nat)(e:Int):Int:=((bl m:Int)+e+1)/2
def sqL(m:Nat)(e:Int):Int:=Jf (sqT m e)
def sqA(m:Nat)(e low:Int):Nat:=stR (ovA m (e-2*low)) (2^(-(e-2*low)).toNat)
def sqV(k:Int)(s:Bool)(m e mode:Int):FlV:=
 if k=3∨k=0 then⟨k,s,m,e⟩else if s=true then⟨3,false,0,0⟩else if k=2 then⟨k,s,m,e⟩else
  ⟨flK false mode (rq false (sqA m.toNat e (sqL m.toNat e)) 4 mode) (sqL m.toNat e),false,bhM false mode (rq false (sqA m.toNat e (sqL m.toNat e)) 4 mode) (sqL m.toNat e),bhN false mode (rq false (sqA m.toNat e (sqL m.toNat e)) 4 mode) (sqL m.toNat e)⟩
def sqG(k:Int)(s:Bool)(m e mode:Int):Int:=
 if k=3∨k=0 then 0 else if s=true then 16 else if k=2 then 0 else
  biz (sqT m.toNat e) (decide (sqA m.toNat e (sqL m.toNat e) % 4=0)) (rq false (sqA m.toNat e (sqL m.toNat e)) 4 mode) (sqL m.toNat e)
end Go.Ab
namespace Go.Ab
open Go Go.Proofs
def rtE(x:ExV)(low md:Int):ExV:=⟨false,rq false (sqA x.m x.e low) 4 md,low⟩
def blz(n:Int):Bool:=decide (-3000≤n)&&decide (n≤3000)
end Go.Ab
namespace Go.Ab
open Go Go.Proofs
theorem aQx(n e:Int)(hn: -9223372036854775808≤n∧n<9223372036854775808)(he: -12000≤e∧e≤12000):Con Tryz.prog 16 false [.v (.int .i64 n),.v (.int .i64 e)] [] (isA (.ag [.v (.bool ((ExV.mk (decide (n<0)) n.natAbs e).tel).s),.sl (lim ((ExV.mk (decide (n<0)) n.natAbs e).tel).m).length (qh (lim ((ExV.mk (decide (n<0)) n.natAbs e).tel).m)),.v (.int .i64 ((ExV.mk (decide (n<0)) n.natAbs e).tel).e)])):=by
 refine Con.frzA ?_
 have hw:zS (decide (n<0)) (lim n.natAbs)=true:=QM (by
  have:=qI (m:=n.natAbs) (B:=64) (zD.2 (by omega));omega) (by intro h;simp;omega)
 have c:=yB ⟨decide (n<0),n.natAbs,e⟩ hw he
 generalize ExV.tel ⟨decide (n<0),n.natAbs,e⟩=y at*
 generalize ExV.fit ⟨decide (n<0),n.natAbs,e⟩=b at*
 refine Con.of_w (rs:=[.cell 4 42]) Tryz.func16 rfl Tryz.ntmps16 rfl ?_
 simp(disch:=omega)only[go_sem]
 refine qb (Zh n hn) ?_
 simp(disch:=omega)only[go_sem]
 refine qb (c) ?_
 simp(disch:=omega)only[go_sem]
 exact qq
end Go.Ab
namespace Go.Ab
open Go Go.Proofs
/-! ### The rank:rows made nought below pivots-/
def jq(n:Nat)(L:List ExV)(i:Nat):List ExV:=(L.drop (i*n)).take n
theorem zW{n i:Nat}{L:List ExV}(hl:L.length=n*n)(hi:i<n):(jq n L i).length=n:=by
 unfold jq
 rw[List.length_take,List.length_drop,hl]
 have:(i+1)*n≤n*n:=Nat.mul_le_mul_right n (by omega)
 rw[Nat.add_mul,Nat.one_mul]at this
 omega
theorem aEV{n i k:Nat}{L:List ExV}(hk:k<n):(jq n L i).getD k ex0=L.getD (i*n+k) ex0:=by
 unfold jq
 rw[List.getD_eq_getElem?_getD,List.getElem?_take_of_lt hk,List.getElem?_drop,List.getD_eq_getElem?_getD]
theorem afS{n i:Nat}{L:List ExV}{x:ExV}(h:x∈jq n L i):x∈L:=List.mem_of_mem_drop (List.mem_of_mem_take h)
def nwX(X P:List ExV)(j t:Nat):ExV:=((X.getD t ex0).times (P.getD j ex0)).plus ((P.getD t ex0).times (X.getD j ex0)).neg
def uR(n:Nat)(X P:List ExV)(j c:Nat):List ExV:=(List.range n).map fun t=>if t<c then nwX X P j t else X.getD t ex0
theorem qF{n:Nat}{X P:List ExV}{j c:Nat}:(uR n X P j c).length=n:=by simp[uR]
theorem za{n:Nat}{X P:List ExV}{j c t:Nat}(ht:t<n):(uR n X P j c).getD t ex0=if t<c then nwX X P j t else X.getD t ex0:=by
 rw[List.getD_eq_getElem?_getD];simp[uR,ht]
theorem qT{n:Nat}{X P:List ExV}{j:Nat}(hX:X.length=n):uR n X P j 0=X:=by
 refine List.ext_getElem (by rw[qF,hX]) fun t h1 h2=>?_
 have h:=@za n X P j 0 t (by omega)
 rw[if_neg (by omega),List.getD_eq_getElem?_getD,List.getElem?_eq_getElem h1,List.getD_eq_getElem?_getD,List.getElem?_eq_getElem h2]at h
 exact h
theorem zl{n:Nat}{X P:List ExV}{j c:Nat}(hc:c<n):(uR n X P j c).set c (nwX X P j c)=uR n X P j (c+1):=by
 refine List.ext_getElem (by rw[List.length_set,qF,qF]) fun t h1 h2=>?_
 have h:=@za n X P j (c+1) t (by rw[qF]at h2;exact h2)
 have g:=@za n X P j c t (by rw[qF]at h2;exact h2)
 have h3:t<(uR n X P j c).length:=by rw[List.length_set]at h1;exact h1
 rw[List.getD_eq_getElem?_getD,List.getElem?_eq_getElem h2]at h
 rw[List.getD_eq_getElem?_getD,List.getElem?_eq_getElem h3]at g
 simp only[Option.getD_some]at h g
 rw[h,List.getElem_set]
 by_cases e:c=t
 ·subst e;rw[if_pos rfl,if_pos (by omega)]
 ·rw[if_neg e,g]
  by_cases e2:t<c
  ·rw[if_pos e2,if_pos (by omega)]
  ·rw[if_neg e2,if_neg (by omega)]
theorem aZu{K:Nat}{y:ExV}:y.val K=0↔y.m=0:=by
 constructor
 ·intro h
  have e:(y.val K).natAbs=y.m*2^(y.e+(K:Int)).toNat:=by
   show(sv y.s y.m*2^(y.e+(K:Int)).toNat).natAbs=_
   rw[Int.natAbs_mul,afO,Int.natAbs_pow];rfl
  rw[h]at e
  have hp:0<2^(y.e+(K:Int)).toNat:=Nat.pow_pos (by decide)
  rcases Nat.eq_zero_or_pos y.m with g|g
  ·exact g
  ·have:=Nat.mul_pos g hp
   simp at e;omega
 ·intro h
  show sv y.s y.m*_=0
  rw[h];simp[sv]
def rkC(R:Nat→List ExV)(κ:Nat→Nat)(i k:Nat):Int:=((R i).getD k ex0).val (κ i)
structure rkInv(n:Nat)(L:List ExV)(j r:Nat)(R:Nat→List ExV):Prop where
 rj:r≤j
 jn:j≤n
 len:∀i,i<n→(R i).length=n
 bd:∀i,i<n→gbd (-((3000*2^j:Nat):Int)) ((4601*2^j-1:Nat):Int) (R i)
 el:∃κ:Nat→Nat,(∀i,i<n→eK (κ i) (R i))∧elim n (mv 3000 L n) (rkC R κ) r j
structure rkRed(n:Nat)(L:List ExV)(j r m:Nat)(R:Nat→List ExV):Prop where
 rj:r≤j
 jn:j<n
 len:∀i,i<n→(R i).length=n
 bd:∀i,i<n→gbd (-((3000*2^(j+1):Nat):Int)) ((4601*2^(j+1)-1:Nat):Int) (R i)
 bd0:∀i,i<n→i≤r∨m≤i→gbd (-((3000*2^j:Nat):Int)) ((4601*2^j-1:Nat):Int) (R i)
 el:∃κ:Nat→Nat,(∀i,i<n→eK (κ i) (R i))∧elimR n (mv 3000 L n) (rkC R κ) r j m
theorem rkInv.start{n:Nat}{L:List ExV}(h:matV n L):rkInv n L 0 0 (jq n L):=by
 refine⟨Nat.le_refl _,Nat.zero_le _,fun i hi=>zW h.len hi,fun i hi x hx=>(ark (h.ok x (afS hx))).mono (by simp) (by simp),fun _=>3000,fun i hi x hx=>h.eK (Nat.le_refl _) x (afS hx),?_⟩
 have e:=elim.start n h.n4 (mv 3000 L n)
 obtain⟨a,b,⟨U,hU,hC⟩,⟨p,hp⟩,hz⟩:=e
 refine⟨a,b,⟨U,hU,fun i k hi hk=>?_⟩,⟨p,fun t ht=>by omega⟩,fun i k _ _ hk=>by omega⟩
 rw[←hC i k hi hk]
 unfold rkC mv
 rw[aEV hk]
theorem aSP(c j:Nat):c*2^j≤c*2^(j+1):=Nat.mul_le_mul_left c (Nat.pow_le_pow_right (by decide) (by omega))
theorem aY4{j:Nat}{l:List ExV}(h:gbd (-((3000*2^j:Nat):Int)) ((4601*2^j-1:Nat):Int) l):gbd (-((3000*2^(j+1):Nat):Int)) ((4601*2^(j+1)-1:Nat):Int) l:=by
 have a:=aSP 3000 j
 have b:=aSP 4601 j
 exact yh h (by omega) (by omega)
theorem rkInv.skip{n:Nat}{L:List ExV}{j r:Nat}{R:Nat→List ExV}(h:rkInv n L j r R)(hj:j<n)(hz:∀i,r≤i→i<n→((R i).getD j ex0).m=0):rkInv n L (j+1) r R:=by
 obtain⟨a,b,c,d,κ,k1,k2⟩:=h
 exact⟨by omega,by omega,c,fun i hi=>aY4 (d i hi),κ,k1,k2.skip fun i h1 h2=>aZu.2 (hz i h1 h2)⟩
theorem rkInv.pivot{n:Nat}{L:List ExV}{j r k:Nat}{R:Nat→List ExV}(hn:n≤4)(h:rkInv n L j r R)(hj:j<n)(hk:r+k<n)(hp:((R (r+k)).getD j ex0).m≠0):rkRed n L j r (r+1) (fun i=>R (swI r (r+k) i)):=by
 obtain⟨a,b,c,d,κ,k1,k2⟩:=h
 have hs:∀i,i<n→swI r (r+k) i<n:=fun i hi=>by unfold swI;split<;>(try split)<;>omega
 have e:=(k2.swap hn (show r<n by omega) (show r≤r+k by omega) hk)
 have e2:swI r (r+k) r=r+k:=by unfold swI;rw[if_pos rfl]
 refine⟨a,hj,fun i hi=>c _ (hs i hi),fun i hi=>aY4 (d _ (hs i hi)),fun i hi _=>d _ (hs i hi),fun i=>κ (swI r (r+k) i),fun i hi=>k1 _ (hs i hi),?_⟩
 refine elim.pivot e (by omega) hj ?_
 show((R (swI r (r+k) r)).getD j ex0).val (κ (swI r (r+k) r))≠0
 rw[e2]
 exact fun h=>hp (aZu.1 h)
theorem aIM{K K':Nat}{X P:List ExV}{j t n:Nat}(hX:X.length=n)(hP:P.length=n)(ht:t<n)(hj:j<n)(eX:eK K X)(eP:eK K' P):(nwX X P j t).val (K+K')=(X.getD t ex0).val K*(P.getD j ex0).val K'-(P.getD t ex0).val K'*(X.getD j ex0).val K∧ -((K+K':Nat):Int)≤(nwX X P j t).e:=by
 have a1:=QE eX (show t<X.length by omega)
 have a2:=QE eX (show j<X.length by omega)
 have b1:=QE eP (show t<P.length by omega)
 have b2:=QE eP (show j<P.length by omega)
 have c1: -((K+K':Nat):Int)≤((X.getD t ex0).times (P.getD j ex0)).e:=by show _≤(X.getD t ex0).e+(P.getD j ex0).e;omega
 have c2: -((K+K':Nat):Int)≤((P.getD t ex0).times (X.getD j ex0)).e:=by show _≤(P.getD t ex0).e+(X.getD j ex0).e;omega
 refine⟨?_,aaj (y:=ExV.neg _) c1 c2⟩
 unfold nwX
 rw[Qt (y:=ExV.neg ((P.getD t ex0).times (X.getD j ex0))) c1 c2,arw,Ql a1 b2]
 have:=Ql b1 a2
 rw[Nat.add_comm K' K]at this
 rw[this];omega
theorem zR{X P:List ExV}{j t n c:Nat}(hX:X.length=n)(hP:P.length=n)(ht:t<n)(hj:j<n)(bX:gbd (-((3000*2^c:Nat):Int)) ((4601*2^c-1:Nat):Int) X)(bP:gbd (-((3000*2^c:Nat):Int)) ((4601*2^c-1:Nat):Int) P):
  ((X.getD t ex0).times (P.getD j ex0)).bd (-((3000*2^(c+1):Nat):Int)) ((4601*2^(c+1)-2:Nat):Int)∧((P.getD t ex0).times (X.getD j ex0)).bd (-((3000*2^(c+1):Nat):Int)) ((4601*2^(c+1)-2:Nat):Int)∧(nwX X P j t).bd (-((3000*2^(c+1):Nat):Int)) ((4601*2^(c+1)-1:Nat):Int):=by
 have e1:3000*2^(c+1)=2*(3000*2^c):=by rw[Nat.pow_succ];omega
 have e2:4601*2^(c+1)=2*(4601*2^c):=by rw[Nat.pow_succ];omega
 have hp:0<2^c:=Nat.pow_pos (by decide)
 have t1:=ExV.times_bd (qi bX (show t<X.length by omega)) (qi bP (show j<P.length by omega))
 have t2:=ExV.times_bd (qi bP (show t<P.length by omega)) (qi bX (show j<X.length by omega))
 have t1:=t1.mono (show-((3000*2^(c+1):Nat):Int)≤_ by omega) (show _≤((4601*2^(c+1)-2:Nat):Int) by omega)
 have t2:=t2.mono (show-((3000*2^(c+1):Nat):Int)≤_ by omega) (show _≤((4601*2^(c+1)-2:Nat):Int) by omega)
 exact⟨t1,t2,(ExV.plus_bd t1 (ExV.neg_bd t2)).mono (Int.le_refl _) (by omega)⟩
theorem rkRed.step{n:Nat}{L:List ExV}{j r q:Nat}{R:Nat→List ExV}(hn:n≤4)(h:rkRed n L j r q R)(hq:q<n):rkRed n L j r (q+1) (fun i=>if i=q then uR n (R q) (R r) j n else R i):=by
 obtain⟨a,b,c,d,d0,κ,k1,k2⟩:=h
 have hr:=k2.rn
 have hrm:=k2.rm
 have bX:=d0 q hq (.inr (Nat.le_refl q))
 have bP:=d0 r hr (.inl (Nat.le_refl r))
 refine⟨a,b,fun i hi=>?_,fun i hi=>?_,fun i hi h1=>?_,fun i=>if i=q then κ q+κ r else κ i,fun i hi=>?_,?_⟩
 ·split
  ·exact qF
  ·exact c i hi
 ·split
  ·intro x hx
   unfold uR at hx
   obtain⟨t,ht,rfl⟩:=List.mem_map.1 hx
   have ht:=List.mem_range.1 ht
   rw[if_pos ht]
   exact(zR (c q hq) (c r hr) ht b bX bP).2.2
  ·exact d i hi
 ·rw[if_neg (by omega)]
  exact d0 i hi (by omega)
 ·show eK (if i=q then κ q+κ r else κ i) (if i=q then uR n (R q) (R r) j n else R i)
  by_cases e:i=q
  ·rw[if_pos e,if_pos e]
   intro x hx
   unfold uR at hx
   obtain⟨t,ht,rfl⟩:=List.mem_map.1 hx
   have ht:=List.mem_range.1 ht
   rw[if_pos ht]
   exact(aIM (c q hq) (c r hr) ht b (k1 q hq) (k1 r hr)).2
  ·rw[if_neg e,if_neg e]
   exact k1 i hi
 ·refine elimR.step hn k2 hq (fun i k hi hk hne=>?_) (fun k hk=>?_)
  ·unfold rkC
   dsimp only
   rw[if_neg hne,if_neg hne]
  ·unfold rkC
   dsimp only
   rw[if_pos rfl,if_pos rfl,za hk,if_pos hk]
   exact(aIM (c q hq) (c r hr) hk b (k1 q hq) (k1 r hr)).1
theorem rkRed.done{n:Nat}{L:List ExV}{j r m:Nat}{R:Nat→List ExV}(h:rkRed n L j r m R)(hm:n≤m):rkInv n L (j+1) (r+1) R:=by
 obtain⟨a,b,c,d, -,κ,k1,k2⟩:=h
 exact⟨by omega,by omega,c,d,κ,k1,k2.done hm⟩
theorem rkInv.rank{n:Nat}{L:List ExV}{r:Nat}{R:Nat→List ExV}(hn:n≤4)(h:rkInv n L n r R):isRank n (mv 3000 L n) r:=by
 obtain⟨-, -, -, -,κ, -,k2⟩:=h
 exact k2.rank hn
def rkQ(n:Nat)(L:List ExV):AV→List Ob→List Ob→Prop:=fun x hs bs=>hs=[]∧bs=[]∧∃r:Nat,isRank n (mv 3000 L n) r∧x=.v (.int .i64 r)
end Go.Ab
