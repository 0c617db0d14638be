/- What the proof of this claim stands on: the walks of the functions and the plain laws, part 5. -/
import Derived.Test.YtjkhfpjccemboaaGreatDoorFnFlRoundsLib4
set_option linter.unusedVariables false
set_option linter.unusedSimpArgs false
namespace Go.Ab
open Go Go.Proofs
theorem KY(l:List ExV)(h0:0<l.length)(hl:l.length≤1000)(hb:gbd (-400000) 400000 l):Con Tryz.prog 176 false [.rf 10000000 0 l.length,.fn 105 []] [.own 3 (qz ExV.cs l)] (fun r hs bs=>r=.ag [.v (.bool (zJ l).s),.sl (lim (zJ l).m).length (qg (lim (zJ l).m)),.v (.int .i64 (zJ l).e)]∧hs=[]∧bs=[.own 3 (qz ExV.cs l)]):=by
 have hc0:=jx (l:=l) (i:=0) h0
 have q1:decide ((l.length:Int)<1)=false:=decide_eq_false (by omega)
 refine Con.of_aw Tryz.func176 rfl Tryz.ntmps176 (by simp) (by simp) (by simp) (W.sound ?_)
 show @W Tryz.prog 33 ⟨_⟩ ⟨fun x σ=>@za _ _ _ ⟨_⟩ _ ⟨_⟩ x σ⟩ _ _
 simp(disch:=omega)only[go_sem,q1,hc0]
 refine⟨by omega,by omega,?_⟩
 refine qk (fun x:Nat×ExV=>[(0,.rf 10000000 0 l.length),(1,.fn 105 []),(4,.pt 1 0),(5,.pt 0 0),(6,.v (.int .i64 x.1))])
  (fun x=>[(0,.own 0 [.v (.bool x.2.s),.sl (lim x.2.m).length (qg (lim x.2.m)),.v (.int .i64 x.2.e)]),(1,.own 0 [.v (.bool false),.v (.slice none 0 0),.v (.int .i64 0)]),(10000000,.own 3 (qz ExV.cs l))])
  (fun x=>1≤x.1∧x.1≤l.length∧x.2=((l.take x.1).drop 1).foldl Qe (l.getD 0 ex0)) (fun x=>l.length-x.1) (1,l.getD 0 ex0) ⟨by omega,by omega,by simp⟩
  (Le.lst [(0,70000000),(1,60000000)] _ _ rfl (by simp(disch:=omega)only[go_sem]) (by simp(disch:=omega)only[go_sem])) ?_
 rintro⟨i,m⟩ ⟨h1,hi,hm⟩
 dsimp only at h1 hi hm ⊢
 have hmb:m.bd (-400000) 400000:=by
  rw[hm];exact QF Yl _ _ (zL hb h0) (fun x hx=>hb x (List.mem_of_mem_take (List.mem_of_mem_drop hx)))
 simp(disch:=omega)only[go_sem]
 refine qe (fun h2=>?_) (fun h2=>?_)
 ·have hi2:i<l.length:=by omega
  have hci:=jx (l:=l) (i:=i) hi2
  have hs:Qe m (l.getD i ex0)=((l.take (i+1)).drop 1).foldl Qe (l.getD 0 ex0):=by
   rw[jM h1 hi2,List.foldl_append,←hm];rfl
  simp(disch:=omega)only[go_sem,h2]
  refine qo rfl [⟨0,[],[]⟩,⟨1,[],[]⟩,⟨2,[],[]⟩,⟨3,[],[]⟩,⟨4,[],[]⟩,⟨5,[4],[]⟩,⟨6,[],[]⟩,⟨7,[],[]⟩] (by kernel_rfl) ?_
  have hg:qs Tryz.prog 105=True:=by simp(disch:=omega)only[go_sem]
  simp(disch:=omega)only[go_sem,hci,hg]
  refine⟨by omega,by omega,?_⟩
  refine qb (Zl (l.getD i ex0) m (zL hb hi2) hmb) ?_
  simp(disch:=omega)only[go_sem]
  generalize l.getD i ex0=y at*
  refine qe (fun h3=>?_) (fun h3=>?_)
  ·simp(disch:=omega)only[go_sem,h3,hci]
   have:Qe m y=y:=if_pos h3
   refine⟨by omega,by omega,qh (i+1,y) [] ⟨by show 1≤i+1;omega,by show i+1≤_;omega,this▸hs⟩ (by show l.length-(i+1)<l.length-i;omega) rfl (by simp(disch:=omega)only[go_sem];try omega) (by simp(disch:=omega)only[go_sem])⟩
  ·simp(disch:=omega)only[go_sem,h3]
   have:Qe m y=m:=if_neg h3
   refine qh (i+1,m) [] ⟨by show 1≤i+1;omega,by show i+1≤_;omega,this▸hs⟩ (by show l.length-(i+1)<l.length-i;omega) rfl (by simp(disch:=omega)only[go_sem];try omega) (by simp(disch:=omega)only[go_sem])
 ·simp(disch:=omega)only[go_sem,h2]
  have:i=l.length:=by omega
  subst this
  rw[List.take_length]at hm
  subst hm
  refine qj [] [] [.own 3 (qz ExV.cs l)] [.ag [.v (.bool (zJ l).s),.sl (lim (zJ l).m).length (qg (lim (zJ l).m)),.v (.int .i64 (zJ l).e)]] rfl (by simp(disch:=omega)only[go_sem,zJ]) (by simp(disch:=omega)only[go_sem]) (by simp) (by simp) ⟨rfl,rfl,rfl⟩
theorem KX(l:List ExV)(h0:0<l.length)(hl:l.length≤1000)(hb:gbd (-400000) 400000 l):Con Tryz.prog 93 false [.rf 10000000 0 l.length] [.own 3 (qz ExV.cs l)] (fun r hs bs=>r=.ag [.v (.bool (zJ l).s),.sl (lim (zJ l).m).length (qg (lim (zJ l).m)),.v (.int .i64 (zJ l).e)]∧hs=[]∧bs=[.own 3 (qz ExV.cs l)]):=by
 refine Con.of_aw Tryz.func93 rfl Tryz.ntmps93 (by simp) (by simp) (by simp) (W.sound ?_)
 show @W Tryz.prog 5 ⟨_⟩ ⟨fun x σ=>@za _ _ _ ⟨_⟩ _ ⟨_⟩ x σ⟩ _ _
 simp(disch:=omega)only[go_sem]
 refine zk false [10000000] (KY l h0 hl hb) (by simp(disch:=omega)only[go_sem]) (by simp(disch:=omega)only[go_sem]) rfl (zg (z:=3) (cs:=qz ExV.cs l) (by simp(disch:=omega)only[go_sem]) (by simp(disch:=omega)only[go_sem])) (by intro n hn;exact⟨_,List.mem_cons_self ..,by rw[List.mem_singleton.1 hn];rfl⟩) ?_
 rintro r hs bs ⟨rfl,rfl,rfl⟩-
 refine⟨by simp[qS],?_⟩
 simp(disch:=omega)only[go_sem]
 refine qj [] [] [.own 3 (qz ExV.cs l)] [.ag [.v (.bool (zJ l).s),.sl (lim (zJ l).m).length (qg (lim (zJ l).m)),.v (.int .i64 (zJ l).e)]] rfl (by simp(disch:=omega)only[go_sem]) (by simp(disch:=omega)only[go_sem]) (by simp) (by simp) ⟨rfl,rfl,rfl⟩
def ajv(n:Nat)(l:List ExV)(j k:Nat):ExV:=(List.range k).foldl (fun s i=>s.plus (l.getD (i*n+j) ex0).abs) ex0
theorem ap6(n:Nat)(l:List ExV)(j k:Nat):ajv n l j (k+1)=(ajv n l j k).plus (l.getD (k*n+j) ex0).abs:=by
 unfold ajv;rw[List.range_succ,List.foldl_append,List.foldl_cons,List.foldl_nil]
theorem ap7{lo hi:Int}{n:Nat}{l:List ExV}{j k:Nat}(hj:j<n)(hk:k≤n)(hl:l.length=n*n)(hb:gbd lo hi l)(h0:lo≤0∧0≤hi):(ajv n l j k).bd lo (hi+k):=
 aen _ h0 k fun t ht=>ExV.abs_bd (zL hb (by rw[hl];exact Qj (by omega) hj))
def ym(n:Nat)(l:List ExV)(k:Nat):ExV:=(List.range k).foldl (fun s j=>zJ [s,ajv n l j n]) ex0
theorem JE(n:Nat)(l:List ExV)(k:Nat):ym n l (k+1)=zJ [ym n l k,ajv n l k n]:=by
 unfold ym;rw[List.range_succ,List.foldl_append,List.foldl_cons,List.foldl_nil]
theorem Yh{lo hi:Int}{n:Nat}{l:List ExV}(hl:l.length=n*n)(hb:gbd lo hi l)(h0:lo≤0∧0≤hi):∀k,k≤n→(ym n l k).bd lo (hi+n)
 |0,_=>aep h0.1 (by omega)
 |k+1,h=>by
  rw[JE]
  refine Zg (fun x hx=>?_) (by simp)
  simp only[List.mem_cons,List.not_mem_nil,or_false]at hx
  rcases hx with rfl|rfl
  ·exact Yh hl hb h0 k (by omega)
  ·exact ap7 (by omega) (Nat.le_refl _) hl hb h0
set_option maxRecDepth 100000 in
theorem YK(n:Nat)(l:List ExV)(hn:n≤4)(hl:l.length=n*n)(hb:gbd (-390000) 390000 l):Con Tryz.prog 78 false [.ag [.v (.int .i64 (n)),.sl (l).length (qz ExV.cs (l))]] [] (isA (.ag [.v (.bool (ym n l n).s),.sl (lim (ym n l n).m).length (qg (lim (ym n l n).m)),.v (.int .i64 (ym n l n).e)])):=by
 refine Con.frzA ?_
 have hq:=anH hn
 refine Con.of_aw Tryz.func78 rfl Tryz.ntmps78 (by simp) (by simp) (by simp) (AW.seqLe (E:=[(1,.fp [.v (.int .i64 n),.sl l.length (qz ExV.cs l)] 0),(2,.pt 0 0)]) (H:=[(0,.own 0 [.v (.bool false),.v (.slice none 0 0),.v (.int .i64 0)])]) (W.sound ?_) (W.sound ?_))
 ·show @W Tryz.prog 31 ⟨_⟩ ⟨_⟩ _ _
  simp(disch:=omega)only[go_sem]
  exact(Le.frz 30000000 (z:=0) (ks:=[.v (.int .i64 n),.sl l.length (qz ExV.cs l)]) (by simp(disch:=omega)only[go_sem]) rfl (by simp(disch:=omega)only[go_sem])).trans (Le.lst [(0,40000000)] _ _ rfl (by simp(disch:=omega)only[go_sem]) (by simp(disch:=omega)only[go_sem]))
 show @W Tryz.prog 31 ⟨_⟩ ⟨fun x σ=>@za _ _ _ ⟨_⟩ _ ⟨_⟩ x σ⟩ _ _
 simp(disch:=omega)only[go_sem]
 refine qk (fun j:Nat=>[(1,.fp [.v (.int .i64 n),.sl l.length (qz ExV.cs l)] 0),(2,.pt 0 0),(3,.pt 1 0),(8,.v (.int .i64 n)),(9,.v (.int .i64 j))])
  (fun j=>[(0,.own 0 [.v (.bool false),.v (.slice none 0 0),.v (.int .i64 0)]),(1,.own 0 [.v (.bool (ym n l j).s),.sl (lim (ym n l j).m).length (qg (lim (ym n l j).m)),.v (.int .i64 (ym n l j).e)])]) (fun j=>j≤n) (fun j=>n-j) 0 (by omega)
  ((Le.nilC 50000000 1 (zo:=0) (cs:=[.v (.bool false),.v (.slice none 0 0),.v (.int .i64 0)]) (by simp(disch:=omega)only[go_sem]) rfl).trans (Le.lst [(1,50000000)] _ _ rfl (by simp(disch:=omega)only[go_sem]) (by simp(disch:=omega)only[go_sem,List.set_cons_succ,List.set_cons_zero,show ym n l 0=ex0 from rfl,ex0,qm]))) ?_
 intro j hj
 have hN:=Yh hl hb (by omega) j hj
 have hNs:=JE n l j
 generalize hNN:ym n l j=A at*
 simp(disch:=omega)only[go_sem]
 refine qe (fun h1=>?_) (fun h1=>?_)
 ·simp(disch:=omega)only[go_sem,h1]
  refine qk (fun k:Nat=>[(1,.fp [.v (.int .i64 n),.sl l.length (qz ExV.cs l)] 0),(2,.pt 0 0),(3,.pt 1 0),(4,.v (.int .i64 j)),(5,.pt 2 0),(8,.v (.int .i64 n)),(9,.v (.int .i64 j)),(13,.v (.int .i64 n)),(14,.v (.int .i64 k))])
   (fun k=>[(0,.own 0 [.v (.bool false),.v (.slice none 0 0),.v (.int .i64 0)]),(1,.own 0 [.v (.bool A.s),.sl (lim A.m).length (qg (lim A.m)),.v (.int .i64 A.e)]),(2,.own 0 [.v (.bool (ajv n l j k).s),.sl (lim (ajv n l j k).m).length (qg (lim (ajv n l j k).m)),.v (.int .i64 (ajv n l j k).e)])]) (fun k=>k≤n) (fun k=>n-k) 0 (by omega)
   ((Le.nilC 70000000 1 (zo:=0) (cs:=[.v (.bool false),.v (.slice none 0 0),.v (.int .i64 0)]) (by simp(disch:=omega)only[go_sem]) rfl).trans (Le.lst [(2,70000000)] _ _ rfl (by simp(disch:=omega)only[go_sem]) (by simp(disch:=omega)only[go_sem,List.set_cons_succ,List.set_cons_zero,show ajv n l j 0=ex0 from rfl,ex0,qm]))) ?_
  intro k hk
  have hC:=ap7 (k:=k) (show j<n by omega) hk hl hb (by omega)
  have hCs:=ap6 n l j k
  generalize hCC:ajv n l j k=D at*
  simp(disch:=omega)only[go_sem]
  refine qe (fun h2=>?_) (fun h2=>?_)
  ·have hx:=Qj (show k<n by omega) (show j<n by omega)
   have c1:=ap1 n l k j (by omega) (by omega) (by omega) (by omega) (by omega)
   have b1:=zL hb (show k*n+j<l.length by omega)
   generalize l.getD (k*n+j) ex0=x at*
   simp(disch:=omega)only[go_sem,h2]
   refine qo rfl [⟨0,[],[]⟩,⟨1,[0],[]⟩,⟨2,[0,1],[]⟩,⟨3,[0,1],[]⟩,⟨4,[0],[]⟩,⟨5,[0],[]⟩,⟨6,[],[]⟩,⟨7,[],[]⟩] (by kernel_rfl) ?_
   simp(disch:=omega)only[go_sem]
   refine qa (c1) ?_
   simp(disch:=omega)only[go_sem]
   refine qa (YR x) ?_
   simp(disch:=omega)only[go_sem]
   refine qa (jV D x.abs (hC.mono (by omega) (by omega)) (ExV.abs_bd (b1.mono (by omega) (by omega)))) ?_
   simp(disch:=omega)only[go_sem]
   exact qh (k+1) [] (by show k+1≤_;omega) (by show n-(k+1)<n-k;omega) rfl (by simp(disch:=omega)only[go_sem];try omega) (by simp(disch:=omega)only[go_sem,hCs])
  ·obtain rfl:n=k:=by omega
   rw[hCC]at hNs
   simp(disch:=omega)only[go_sem,h2]
   have hrow:([.v (.bool A.s),.sl (lim A.m).length (qg (lim A.m)),.v (.int .i64 A.e),.v (.bool D.s),.sl (lim D.m).length (qg (lim D.m)),.v (.int .i64 D.e)]:List AV)=qz ExV.cs [A,D]:=rfl
   rw[hrow]
   refine zk false [290000000] (KX [A,D] (by simp) (by simp) (fun x hx=>?_)) (by simp(disch:=omega)only[go_sem]) (by simp(disch:=omega)only[go_sem]) rfl (zg (z:=3) (cs:=qz ExV.cs [A,D]) (by simp(disch:=omega)only[go_sem]) (by simp(disch:=omega)only[go_sem])) (by intro n hn;exact⟨_,List.mem_cons_self ..,by rw[List.mem_singleton.1 hn];rfl⟩) ?_
   ·simp only[List.mem_cons,List.not_mem_nil,or_false]at hx
    rcases hx with rfl|rfl
    ·exact hN.mono (by omega) (by omega)
    ·exact hC.mono (by omega) (by omega)
   rintro r hs bs ⟨rfl,rfl,rfl⟩-
   refine⟨by simp[qS],?_⟩
   simp(disch:=omega)only[go_sem]
   exact qh (j+1) [] (by show j+1≤_;omega) (by show n-(j+1)<n-j;omega) rfl (by simp(disch:=omega)only[go_sem];try omega) (by simp(disch:=omega)only[go_sem,hNs])
 ·simp(disch:=omega)only[go_sem,h1]
  obtain rfl:n=j:=by omega
  rw[hNN]
  exact qn
end Go.Ab
namespace Go.Ab
open Go Go.Proofs
def ExV.can(x:ExV):ExV:=⟨oS x.s x.m,oM x.m,oE x.m x.e⟩
def ExV.fit(x:ExV):Bool:=jD x.m x.e
def SpV.can(s:SpV):SpV:=⟨s.lo.can,s.hi.can⟩
def SpV.fit(s:SpV):Bool:=s.lo.fit&&s.hi.fit
theorem YP(x:ExV)(hx:x.bd (-400000) 400000):Con Tryz.prog 68 false [.ag [.v (.bool (x).s),.sl (lim (x).m).length (qg (lim (x).m)),.v (.int .i64 (x).e)]] [] (isA (if x.fit=true then .tu [.ag [.v (.bool (x.can).s),.sl (lim (x.can).m).length (qg (lim (x.can).m)),.v (.int .i64 (x.can).e)],.v (.bool true)]else .tu [.ag [.v (.bool (false)),.sl (lim (0)).length (qg (lim (0))),.v (.int .i64 (0))],.v (.bool false)])):=by
 obtain⟨a1,a2,a3⟩:=hx
 exact apY x.s x.m x.e (by omega) (by omega)
set_option maxRecDepth 100000 in
theorem apX(l:List ExV)(hl:l.length≤1000)(hb:gbd (-400000) 400000 l):Con Tryz.prog 166 false [.sl l.length (qz ExV.cs l)] []
  (isA (if l.all ExV.fit=true then .tu [.sl l.length (qz ExV.cs (l.map ExV.can)),.v (.bool true)]else .tu [.sl 0 [],.v (.bool false)])):=by
 refine Con.frzA ?_
 refine Con.of_aw Tryz.func166 rfl Tryz.ntmps166 (by simp) (by simp) (by simp) (W.sound ?_)
 show @W Tryz.prog 28 ⟨_⟩ ⟨fun x σ=>@za _ _ _ ⟨_⟩ _ ⟨_⟩ x σ⟩ _ _
 simp(disch:=omega)only[go_sem]
 refine qk (fun i:Nat=>[(2,.v (.slice none 0 0)),(3,.v (.bool false)),(4,.rf 1 0 i),(9,.sl l.length (qz ExV.cs l)),(10,.v (.int .i64 l.length)),(11,.v (.int .i64 i))])
  (fun i=>[(1,.own 3 (qz ExV.cs (mpT l ExV.can i)))]) (fun i=>i≤l.length∧∀x∈l.take i,x.fit=true) (fun i=>l.length-i) 0 ⟨by omega,by simp⟩
  ((Le.ghost 4 1 3 (by simp(disch:=omega)only[go_sem]) (by simp(disch:=omega)only[go_sem])).trans (Le.lst [] _ _ rfl (by simp(disch:=omega)only[go_sem]) (by simp(disch:=omega)only[go_sem,yy,YC]))) ?_
 rintro i ⟨hi,hf⟩
 simp(disch:=omega)only[go_sem]
 refine qe (fun h1=>?_) (fun h1=>?_)
 ·have hi2:i<l.length:=by omega
  have hci:=jx hi2
  have hcut:=zO (ji (F:=ExV.can) hi)
  have hml:=ji (F:=ExV.can) hi
  have hs:=yz (F:=ExV.can) ex0 hi2
  have hx:=zL hb hi2
  have hmem:l.getD i ex0∈l:=by rw[List.getD_eq_getElem?_getD,List.getElem?_eq_getElem hi2];exact List.getElem_mem _
  have htk:l.take (i+1)=l.take i++[l.getD i ex0]:=by
   rw[List.take_add_one,List.getElem?_eq_getElem hi2,List.getD_eq_getElem?_getD,List.getElem?_eq_getElem hi2];rfl
  generalize l.getD i ex0=x at*
  have cd:=YP x hx
  simp(disch:=omega)only[go_sem,h1,hci]
  refine⟨by omega,by omega,?_⟩
  cases hft:x.fit
  ·have hall:l.all ExV.fit=false:=by rw[List.all_eq_false];exact⟨x,hmem,by rw[hft];simp⟩
   rw[hft,if_neg (by simp)]at cd
   rw[hall,if_neg (by simp)]
   refine qa (cd) ?_
   simp(disch:=omega)only[go_sem]
   exact qn
  ·rw[hft,if_pos rfl]at cd
   refine qa (cd) ?_
   simp(disch:=omega)only[go_sem]
   simp(disch:=omega)only[go_sem,hcut,Qp]
   refine⟨⟨by rw[hml];exact Nat.le_refl _,by omega⟩,qh (i+1) [(1,270000000)] ⟨by show i+1≤_;omega,fun y hy=>?_⟩ (by show l.length-(i+1)<l.length-i;omega) rfl (by simp(disch:=omega)only[go_sem];try omega) (by simp(disch:=omega)only[go_sem,hs])⟩
   rw[htk]at hy
   rcases List.mem_append.1 hy with h|h
   ·exact hf y h
   ·rw[List.mem_singleton.1 h];exact hft
 ·simp(disch:=omega)only[go_sem,h1]
  obtain rfl:i=l.length:=by omega
  rw[List.take_length]at hf
  have hall:l.all ExV.fit=true:=List.all_eq_true.2 hf
  rw[hall,if_pos rfl]
  refine qj [(0,1)] [.own 3 (qz ExV.cs (mpT l ExV.can l.length))] [] [.rf 0 0 l.length,.v (.bool true)] rfl (by simp(disch:=omega)only[go_sem]) (by simp(disch:=omega)only[go_sem]) (by simp) (by simp) ?_
  show qP _ 6 _=_
  simp(disch:=omega)only[go_sem,J6,zv,QB,zO (l:=l.map ExV.can) (k:=l.length) (List.length_map ..)]
theorem aK7(n:Nat)(l:List ExV)(hl:l.length≤1000)(hb:gbd (-400000) 400000 l):Con Tryz.prog 81 false [.ag [.v (.int .i64 (n)),.sl (l).length (qz ExV.cs (l))]] []
  (isA (if l.all ExV.fit=true then .tu [.ag [.v (.int .i64 n),.sl l.length (qz ExV.cs (l.map ExV.can))],.v (.bool true)]else .tu [.ag [.v (.int .i64 0),.sl 0 []],.v (.bool false)])):=by
 refine Con.frzA ?_
 have cd:=apX l hl hb
 generalize l.map ExV.can=L at*
 cases hf:l.all ExV.fit
 ·rw[hf,if_neg (by simp)]at cd
  rw[if_neg (by simp)]
  refine Con.of_w (rs:=[.cell 2 42,.tmp 3]) Tryz.func81 rfl Tryz.ntmps81 rfl ?_
  simp(disch:=omega)only[go_sem]
  refine qa (cd) ?_
  simp(disch:=omega)only[go_sem]
  exact qn
 ·rw[hf,if_pos rfl]at cd
  rw[if_pos rfl]
  refine Con.of_w (rs:=[.cell 2 42,.tmp 3]) Tryz.func81 rfl Tryz.ntmps81 rfl ?_
  simp(disch:=omega)only[go_sem]
  refine qa (cd) ?_
  simp(disch:=omega)only[go_sem]
  exact qn
theorem Jn(n:Nat)(l:List ExV)(x:ExV)(hl:l.length≤1000)(hb:gbd (-400000) 400000 l)(hx:x.bd (-400000) 400000):Con Tryz.prog 154 false [.ag [.v (.int .i64 (n)),.sl (l).length (qz ExV.cs (l))],.ag [.v (.bool (x).s),.sl (lim (x).m).length (qg (lim (x).m)),.v (.int .i64 (x).e)]] []
  (isA (if(l.all ExV.fit&&x.fit)=true then .tu [.ag [.v (.int .i64 n),.sl l.length (qz ExV.cs (l.map ExV.can))],.ag [.v (.bool (x.can).s),.sl (lim (x.can).m).length (qg (lim (x.can).m)),.v (.int .i64 (x.can).e)],.v (.bool true)]else .tu [.ag [.v (.int .i64 0),.sl 0 []],.ag [.v (.bool (false)),.sl (lim (0)).length (qg (lim (0))),.v (.int .i64 (0))],.v (.bool false)])):=by
 refine Con.frzA ?_
 have cd:=aK7 n l hl hb
 have cx:=YP x hx
 generalize l.map ExV.can=L at*
 cases hf:l.all ExV.fit<;>cases hg:x.fit
 ·rw[hf,if_neg (by simp)]at cd
  rw[hg,if_neg (by simp)]at cx
  rw[if_neg (by simp)]
  refine Con.of_w (rs:=[.cell 4 42,.cell 5 29,.tmp 6]) Tryz.func154 rfl Tryz.ntmps154 rfl ?_
  simp(disch:=omega)only[go_sem]
  refine qa (cd) ?_
  simp(disch:=omega)only[go_sem]
  refine qa (cx) ?_
  simp(disch:=omega)only[go_sem]
  exact qn (hp:=by simp(disch:=omega)only[go_sem,qm,List.length_nil,jn])
 ·rw[hf,if_neg (by simp)]at cd
  rw[hg,if_pos rfl]at cx
  rw[if_neg (by simp)]
  refine Con.of_w (rs:=[.cell 4 42,.cell 5 29,.tmp 6]) Tryz.func154 rfl Tryz.ntmps154 rfl ?_
  simp(disch:=omega)only[go_sem]
  refine qa (cd) ?_
  simp(disch:=omega)only[go_sem]
  refine qa (cx) ?_
  simp(disch:=omega)only[go_sem]
  exact qn (hp:=by simp(disch:=omega)only[go_sem,qm,List.length_nil,jn])
 ·rw[hf,if_pos rfl]at cd
  rw[hg,if_neg (by simp)]at cx
  rw[if_neg (by simp)]
  refine Con.of_w (rs:=[.cell 4 42,.cell 5 29,.tmp 6]) Tryz.func154 rfl Tryz.ntmps154 rfl ?_
  simp(disch:=omega)only[go_sem]
  refine qa (cd) ?_
  simp(disch:=omega)only[go_sem]
  refine qa (cx) ?_
  simp(disch:=omega)only[go_sem]
  exact qn (hp:=by simp(disch:=omega)only[go_sem,qm,List.length_nil,jn])
 ·rw[hf,if_pos rfl]at cd
  rw[hg,if_pos rfl]at cx
  rw[if_pos (by rfl)]
  refine Con.of_w (rs:=[.cell 4 42,.cell 5 29,.tmp 6]) Tryz.func154 rfl Tryz.ntmps154 rfl ?_
  simp(disch:=omega)only[go_sem]
  refine qa (cd) ?_
  simp(disch:=omega)only[go_sem]
  refine qa (cx) ?_
  simp(disch:=omega)only[go_sem]
  refine qo rfl [⟨0,[],[]⟩,⟨1,[0],[]⟩,⟨2,[1],[]⟩,⟨3,[],[]⟩,⟨4,[],[]⟩] (by kernel_rfl) ?_
  simp(disch:=omega)only[go_sem]
  exact qn
theorem app(s:SpV)(hs:s.bd (-400000) 400000):Con Tryz.prog 91 false [.ag [.v (.bool (s).lo.s),.sl (lim (s).lo.m).length (qg (lim (s).lo.m)),.v (.int .i64 (s).lo.e),.v (.bool (s).hi.s),.sl (lim (s).hi.m).length (qg (lim (s).hi.m)),.v (.int .i64 (s).hi.e)]] []
  (isA (if s.fit=true then .tu [.ag [.v (.bool (s.can).lo.s),.sl (lim (s.can).lo.m).length (qg (lim (s.can).lo.m)),.v (.int .i64 (s.can).lo.e),.v (.bool (s.can).hi.s),.sl (lim (s.can).hi.m).length (qg (lim (s.can).hi.m)),.v (.int .i64 (s.can).hi.e)],.v (.bool true)]else .tu [.ag [.v (.bool (sp0).lo.s),.sl (lim (sp0).lo.m).length (qg (lim (sp0).lo.m)),.v (.int .i64 (sp0).lo.e),.v (.bool (sp0).hi.s),.sl (lim (sp0).hi.m).length (qg (lim (sp0).hi.m)),.v (.int .i64 (sp0).hi.e)],.v (.bool false)])):=by
 refine Con.frzA ?_
 have c1:=YP s.lo hs.1
 have c2:=YP s.hi hs.2
 unfold SpV.fit
 cases h1:s.lo.fit<;>cases h2:s.hi.fit
 ·rw[h1,if_neg (by simp)]at c1
  rw[h2,if_neg (by simp)]at c2
  rw[if_neg (by simp)]
  refine Con.of_w (rs:=[.cell 2 50,.tmp 3]) Tryz.func91 rfl Tryz.ntmps91 rfl ?_
  simp(disch:=omega)only[go_sem]
  refine qa (c1) ?_
  simp(disch:=omega)only[go_sem]
  refine qa (c2) ?_
  simp(disch:=omega)only[go_sem]
  exact qn (hp:=by simp(disch:=omega)only[go_sem,sp0,ex0,qm,List.length_nil,jn])
 ·rw[h1,if_neg (by simp)]at c1
  rw[h2,if_pos rfl]at c2
  rw[if_neg (by simp)]
  refine Con.of_w (rs:=[.cell 2 50,.tmp 3]) Tryz.func91 rfl Tryz.ntmps91 rfl ?_
  simp(disch:=omega)only[go_sem]
  refine qa (c1) ?_
  simp(disch:=omega)only[go_sem]
  refine qa (c2) ?_
  simp(disch:=omega)only[go_sem]
  exact qn (hp:=by simp(disch:=omega)only[go_sem,sp0,ex0,qm,List.length_nil,jn])
 ·rw[h1,if_pos rfl]at c1
  rw[h2,if_neg (by simp)]at c2
  rw[if_neg (by simp)]
  refine Con.of_w (rs:=[.cell 2 50,.tmp 3]) Tryz.func91 rfl Tryz.ntmps91 rfl ?_
  simp(disch:=omega)only[go_sem]
  refine qa (c1) ?_
  simp(disch:=omega)only[go_sem]
  refine qa (c2) ?_
  simp(disch:=omega)only[go_sem]
  exact qn (hp:=by simp(disch:=omega)only[go_sem,sp0,ex0,qm,List.length_nil,jn])
 ·rw[h1,if_pos rfl]at c1
  rw[h2,if_pos rfl]at c2
  rw[if_pos (by rfl)]
  refine Con.of_w (rs:=[.cell 2 50,.tmp 3]) Tryz.func91 rfl Tryz.ntmps91 rfl ?_
  simp(disch:=omega)only[go_sem]
  refine qa (c1) ?_
  simp(disch:=omega)only[go_sem]
  refine qa (c2) ?_
  simp(disch:=omega)only[go_sem]
  exact qn (hp:=by simp(disch:=omega)only[go_sem,SpV.can])
set_option maxRecDepth 100000 in
theorem apQ(n:Nat)(l:List SpV)(hl:l.length≤1000)(hb:sbd (-400000) 400000 l):Con Tryz.prog 149 false [.ag [.v (.int .i64 (n)),.sl (l).length (qz SpV.cs (l))]] []
  (isA (if l.all SpV.fit=true then .tu [.ag [.v (.int .i64 n),.sl l.length (qz SpV.cs (l.map SpV.can))],.v (.bool true)]else .tu [.ag [.v (.int .i64 0),.sl 0 []],.v (.bool false)])):=by
 refine Con.frzA ?_
 refine Con.of_aw Tryz.func149 rfl Tryz.ntmps149 (by simp) (by simp) (by simp) (W.sound ?_)
 show @W Tryz.prog 35 ⟨_⟩ ⟨fun x σ=>@za _ _ _ ⟨_⟩ _ ⟨_⟩ x σ⟩ _ _
 simp(disch:=omega)only[go_sem]
 refine qk (fun i:Nat=>[(2,.pt 2 0),(3,.v (.bool false)),(4,.pt 0 0),(13,.sl l.length (qz SpV.cs l)),(14,.v (.int .i64 l.length)),(15,.v (.int .i64 i))])
  (fun i=>[(0,.own 0 [.v (.int .i64 n),.rf 1 0 i]),(1,.own 6 (qz SpV.cs (mpT l SpV.can i))),(2,.own 0 [.v (.int .i64 0),.v (.slice none 0 0)])]) (fun i=>i≤l.length∧∀x∈l.take i,x.fit=true) (fun i=>l.length-i) 0 ⟨by omega,by simp⟩
  ((Le.ghostC 60000000 1 1 6 (zo:=0) (cs:=[.v (.int .i64 n),.v (.slice none 0 0)]) (by simp(disch:=omega)only[go_sem]) rfl (by simp(disch:=omega)only[go_sem])).trans (Le.lst [(0,60000000),(2,40000000)] _ _ rfl (by simp(disch:=omega)only[go_sem]) (by simp(disch:=omega)only[go_sem,yy,Zx,List.set_cons_succ,List.set_cons_zero]))) ?_
 rintro i ⟨hi,hf⟩
 simp(disch:=omega)only[go_sem]
 refine qe (fun h1=>?_) (fun h1=>?_)
 ·have hi2:i<l.length:=by omega
  have hci:=yQ hi2
  have hcut:=jc (ji (F:=SpV.can) hi)
  have hml:=ji (F:=SpV.can) hi
  have hs:=yz (F:=SpV.can) sp0 hi2
  have hx:=jG hb hi2
  have hmem:l.getD i sp0∈l:=by rw[List.getD_eq_getElem?_getD,List.getElem?_eq_getElem hi2];exact List.getElem_mem _
  have htk:l.take (i+1)=l.take i++[l.getD i sp0]:=by
   rw[List.take_add_one,List.getElem?_eq_getElem hi2,List.getD_eq_getElem?_getD,List.getElem?_eq_getElem hi2];rfl
  generalize l.getD i sp0=x at*
  have cd:=app x hx
  simp(disch:=omega)only[go_sem,h1,hci]
  refine⟨by omega,by omega,?_⟩
  cases hft:x.fit
  ·have hall:l.all SpV.fit=false:=by rw[List.all_eq_false];exact⟨x,hmem,by rw[hft];simp⟩
   rw[hft,if_neg (by simp)]at cd
   rw[hall,if_neg (by simp)]
   refine qa (cd) ?_
   simp(disch:=omega)only[go_sem]
   exact qn
  ·rw[hft,if_pos rfl]at cd
   refine qa (cd) ?_
   simp(disch:=omega)only[go_sem]
   simp(disch:=omega)only[go_sem,hcut,y7]
   refine⟨⟨by rw[hml];exact Nat.le_refl _,by omega⟩,qh (i+1) [(1,330000000)] ⟨by show i+1≤_;omega,fun y hy=>?_⟩ (by show l.length-(i+1)<l.length-i;omega) rfl (by simp(disch:=omega)only[go_sem];try omega) (by simp(disch:=omega)only[go_sem,hs])⟩
   rw[htk]at hy
   rcases List.mem_append.1 hy with h|h
   ·exact hf y h
   ·rw[List.mem_singleton.1 h];exact hft
 ·simp(disch:=omega)only[go_sem,h1]
  obtain rfl:i=l.length:=by omega
  rw[List.take_length]at hf
  have hall:l.all SpV.fit=true:=List.all_eq_true.2 hf
  rw[hall,if_pos rfl]
  refine qj [(0,1)] [.own 6 (qz SpV.cs (mpT l SpV.can l.length))] [] [.ag [.v (.int .i64 n),.rf 0 0 l.length],.v (.bool true)] rfl (by simp(disch:=omega)only[go_sem]) (by simp(disch:=omega)only[go_sem]) (by simp) (by simp) ?_
  show qP _ 6 _=_
  simp(disch:=omega)only[go_sem,J6,zv,QB,jc (l:=l.map SpV.can) (k:=l.length) (List.length_map ..)]
end Go.Ab
namespace Go.Ab
open Go Go.Proofs
def fct:Nat→Nat
 |0=>1
 |n+1=>(n+1)*fct n
theorem ao9:∀n,n≤500→bl (fct n)≤9*n+1
 |0,_=>by decide
 |n+1,h=>by
  have h1:=ao9 n (by omega)
  have h2:=yE (n+1) (fct n)
  have h3:bl (n+1)≤9:=q9.2 (by omega)
  show bl ((n+1)*fct n)≤_
  omega
theorem ao8:∀n,0<fct n
 |0=>by decide
 |n+1=>Nat.mul_pos (by omega) (ao8 n)
theorem aCa(n:Nat)(hn:n≤402):Con Tryz.prog 271 false [.v (.int .i64 n)] [] (isA (.sl (lim (fct n)).length (qg (lim (fct n))))):=by
 refine Con.frzA ?_
 refine Con.of_w (rs:=[.tmp 2]) Tryz.func271 rfl Tryz.ntmps271 rfl ?_
 simp(disch:=omega)only[go_sem]
 refine qa (zw 1 (by omega)) ?_
 simp(disch:=omega)only[go_sem]
 by_cases h1:n≤1
 ·have e1:fct n=1:=by
   rcases(by omega:n=0∨n=1)with rfl|rfl<;>rfl
  rw[e1]
  refine qk (fun _:Nat=>[(0,.v (.int .i64 n)),(2,.v (.slice none 0 0)),(3,.sl (lim (1)).length (qg (lim (1)))),(4,.v (.int .i64 2))]) (fun _=>[]) (fun _=>True) (fun _=>0) 0 trivial (Le.lst [] _ _ rfl (by simp(disch:=omega)only[go_sem]) (by simp(disch:=omega)only[go_sem])) ?_
  intro _ _
  simp(disch:=omega)only[go_sem]
  have q:decide ((2:Int)≤(n:Int))=false:=decide_eq_false (by omega)
  simp(disch:=omega)only[go_sem,q]
  exact qn
 ·refine qk (fun k:Nat=>[(0,.v (.int .i64 n)),(2,.v (.slice none 0 0)),(3,.sl (lim (fct k)).length (qg (lim (fct k)))),(4,.v (.int .i64 ((k:Int)+1)))]) (fun _=>[]) (fun k=>1≤k∧k≤n) (fun k=>n-k) 1 (by omega) (Le.lst [] _ _ rfl (by simp(disch:=omega)only[go_sem,show fct 1=1 from rfl,show((1:Nat):Int)+1=2 from rfl];try rfl) (by simp(disch:=omega)only[go_sem])) ?_
  rintro k ⟨hk1,hk⟩
  simp(disch:=omega)only[go_sem]
  refine qe (fun h2=>?_) (fun h2=>?_)
  ·simp(disch:=omega)only[go_sem,h2]
   have e1:(k:Int)+1=((k+1:Nat):Int):=by omega
   have l1:=qy (ao9 k (by omega))
   have l2:=qy (m:=k+1) (B:=9) (q9.2 (by omega))
   have cs:=zw (k+1) (by omega)
   rw[←e1]at cs
   refine qa (cs) ?_
   simp(disch:=omega)only[go_sem]
   refine qa (JL (fct k) (k+1) (by omega) (by omega)) ?_
   simp(disch:=omega)only[go_sem]
   have e2:fct k*(k+1)=fct (k+1):=Nat.mul_comm _ _
   exact qh (k+1) [] ⟨by omega,by omega⟩ (by show n-(k+1)<n-k;omega) rfl (by simp(disch:=omega)only[go_sem,e2];try omega) (by simp(disch:=omega)only[go_sem])
  ·simp(disch:=omega)only[go_sem,h2]
   obtain rfl:n=k:=by omega
   exact qn
def tmS(W:Nat):Nat→Nat→Nat
 |_,0=>0
 |k,f+1=>if fct (k+1)*2^k<2^W then tmS W (k+1) f else k
def tmF(W:Nat):Nat:=tmS W 1 402
theorem apn(B:Nat)(hW:B≤400):Con Tryz.prog 225 true [.v (.int .i64 (-(B:Int)))] [] (isA (.v (.int .i64 (tmF B)))):=by
 refine Con.of_w (rs:=[.tmp 2]) Tryz.func225 rfl Tryz.ntmps225 rfl ?_
 simp(disch:=omega)only[go_sem]
 refine qk (fun k:Nat=>[(0,.v (.int .i64 (-(B:Int)))),(2,.v (.int .i64 0)),(3,.v (.int .i64 k))]) (fun _=>[]) (fun k=>1≤k∧k≤401∧tmS B k (403-k)=tmF B) (fun k=>402-k) 1 ⟨by omega,by omega,rfl⟩ (Le.lst [] _ _ rfl (by simp(disch:=omega)only[go_sem]) (by simp(disch:=omega)only[go_sem])) ?_
 rintro k ⟨hk1,hk2,ht⟩
 have e1:(k:Int)+1=((k+1:Nat):Int):=by omega
 have e2:0-(-(B:Int))=(B:Int):=by omega
 have cf:=aCa (k+1) (by omega)
 rw[←e1]at cf
 have b1:=ao9 (k+1) (by omega)
 have l1:=qy b1
 have b2:=YV (fct (k+1)) k
 have l2:=qy (m:=fct (k+1)*2^k) (B:=5000) (by omega)
 have b3:=YV 1 B
 have b4:bl 1≤1:=q9.2 (by decide)
 have l3:=qy (m:=1*2^B) (B:=500) (by omega)
 have l4:=qy b4
 have cu:=zG 1 B (by omega) (by omega)
 rw[←e2]at cu
 have cc:=jb (fct (k+1)*2^k) (1*2^B) (by omega) (by omega)
 have hstep:tmS B k (403-k)=if fct (k+1)*2^k<2^B then tmS B (k+1) (403-(k+1))else k:=by
  rw[show 403-k=(403-(k+1))+1 by omega];rfl
 have hbig:fct (k+1)*2^k<2^B→k<B:=fun h=>by
  rcases Nat.lt_or_ge k B with h'|h'
  ·exact h'
  ·have g1:2^B≤2^k:=Nat.pow_le_pow_right (by omega) h'
   have g2:1*2^k≤fct (k+1)*2^k:=Nat.mul_le_mul_right _ (ao8 _)
   omega
 have hcl:=(yc ((fct (k+1)*2^k:Nat):Int) ((1*2^B:Nat):Int)).2.1
 generalize zE ((fct (k+1)*2^k:Nat):Int) ((1*2^B:Nat):Int)=C at*
 generalize fct (k+1)=FF at*
 simp(disch:=omega)only[go_sem]
 refine qa (cf) ?_
 simp(disch:=omega)only[go_sem]
 refine qa (zG FF k (by omega) (by omega)) ?_
 simp(disch:=omega)only[go_sem]
 refine qa (zw 1 (by omega)) ?_
 simp(disch:=omega)only[go_sem]
 refine qa (cu) ?_
 simp(disch:=omega)only[go_sem]
 refine qb (cc) ?_
 simp(disch:=omega)only[go_sem]
 refine qe (fun h1=>?_) (fun h1=>?_)
 ·simp(disch:=omega)only[go_sem,h1]
  have hlt:FF*2^k<2^B:=by have:=hcl.1 h1;omega
  have:=hbig hlt
  rw[if_pos hlt,ht]at hstep
  exact qh (k+1) [] ⟨by omega,by omega,hstep.symm⟩ (by show 402-(k+1)<402-k;omega) rfl (by simp(disch:=omega)only[go_sem];try omega) (by simp(disch:=omega)only[go_sem])
 ·simp(disch:=omega)only[go_sem,h1]
  have hlt:¬FF*2^k<2^B:=fun h=>h1 (hcl.2 (by omega))
  rw[if_neg hlt,ht]at hstep
  rw[hstep]
  exact qq
end Go.Ab
namespace Go.Ab
open Go
section
variable {P:Program}
theorem Zm{L:Nat→Option Blk→Prop}{w0:World}{R0:Nat→Prop}{N:Nat}{ops:Array Oper}{K:St→Prop}{Q':Exit→Act→World→Prop}{rest:List Nat}(hQ:∀σ a w,In L w0 R0 N σ a w→K σ→wpOps P ops Q' rest a w):
  ∀(r:List Oper) (k:Nat),(∀j,j<r.length→ops[k+j]? =r[j]?)→∀{e h a w},In L w0 R0 N ⟨e,h⟩ a w→ChF P N ops.toList K r e h→wpOps P ops Q' (List.range' k r.length++rest) a w
 | [],k,hk,e,h,a,w,hi,hs=>by
  simp only[List.length_nil,List.range'_zero,List.nil_append]
  exact hQ _ _ _ hi hs
 |⟨d,op,ty,pos,af,g⟩::r,k,hk,e,h,a,w,hi,hs=>by
  have ho:ops[k]? =some ⟨d,op,ty,pos,af,g⟩:=by
   have:=hk 0 (by simp)
   simpa using this
  have hr:∀j,j<r.length→ops[k+1+j]? =r[j]? :=fun j hj=>by
   have:=hk (j+1) (by simpa using hj)
   rw[show k+1+j=k+(j+1) by omega,this];simp
  have hd:dOk N d:=by cases g<;>exact hs.1
  simp only[List.length_cons,List.range'_succ,List.cons_append,wpOps,ho]
  have run:@Op1 P ⟨d⟩ ⟨op⟩ ⟨fun v hp=>ChF P N ops.toList K r (yK e d v) hp⟩ e h→Oper.wp P ⟨d,op,ty,pos,af,g⟩ a w (wpOps P ops Q' (List.range' (k+1) r.length++rest)) Q':=fun hs=>by
   obtain⟨R,ι,hR,hinv⟩:=hi.inv
   refine aed hinv (Op1.sound hs ty pos af g) fun x w' R' ι' av hp' hR' hK hx hm hi'=>?_
   exact Zm hQ r (k+1) hr (hi.put (o:=⟨d,op,ty,pos,af,g⟩) hd hR hR' hx hm hi') hK
  have skip:ChF P N ops.toList K r (yK e d (.v (.tuple ⟨[]⟩))) h→wpOps P ops Q' (List.range' (k+1) r.length++rest) (a.put d undef) w:=fun hs=>by
   obtain⟨R,ι,hR,hinv⟩:=hi.inv
   exact Zm hQ r (k+1) hr (hi.put (o:=⟨d,op,ty,pos,af,g⟩) hd hR (fun _ h=>.inl h) (.fr _ _ (.v _)) (by simp[AV.All]) hinv) hs
  cases g with
  |none=>
   rw[if_pos (by simp[Region.wanted])]
   exact .inl (run hs.2)
  |some p=>
   obtain⟨j,want⟩:=p
   have h2:=hs.2
   unfold KN at h2
   dsimp only at h2
   split at h2
   ·rename_i d' hd'
    have key:∀v c,e d'=.v v→(match v with| .bool b=>some b|_=>none)=c→yielded ops a.tmps j=c:=by
     intro v c hv hc
     obtain⟨R,ι,hR,hinv⟩:=hi.inv
     have:=hinv.env d'
     change Rep _ _ _ _ (e d')at this
     rw[hv]at this
     have:=this.v_inv
     unfold yielded
     rw[Array.getElem?_toList]at hd'
     rw[hd']
     rw[Array.getD_eq_getD_getElem?]at this
     cases ee:a.tmps[d']? with
     |none=>
      rw[ee]at this
      subst hc
      have:v=undef:=this.symm
      subst this;simp[ee,undef]
     |some y=>rw[ee]at this;simp at this;subst this;subst hc;simp only[Option.bind_some,ee];cases y<;>rfl
    unfold Jc at h2
    split at h2
    ·rename_i b hb
     have hy:=key _ _ hb rfl
     have hw:Region.wanted ⟨d,op,ty,pos,af,some (j,want)⟩ (yielded ops a.tmps)=(b==want):=by
      simp only[Region.wanted,hy]
      cases b<;>cases want<;>rfl
     rw[hw]
     cases hbw:b==want with
     |true=>rw[if_pos rfl];exact .inl (run (h2.1 hbw))
     |false=>rw[if_neg (by simp)];exact skip (h2.2 hbw)
    ·rename_i hb
     have hy:=key _ _ hb rfl
     have hw:Region.wanted ⟨d,op,ty,pos,af,some (j,want)⟩ (yielded ops a.tmps)=false:=by
      simp only[Region.wanted,hy]
      cases want<;>rfl
     rw[hw,if_neg (by simp)]
     exact skip (h2.2 rfl)
    ·exact h2.elim
   ·exact h2.elim
theorem aK3{N:Nat}{l:List Oper}{Q:St→Prop}{e:Nat→AV}{h:Nat→Ob}{E:List (Nat×AV)}{H:List (Nat×Ob)}(hl:Le ⟨e,h⟩ ⟨ofL .un E,ofH H⟩)(hd:@aiM P N ⟨l⟩ ⟨Q⟩ ⟨ofL .un E,ofH H⟩):@aiM P N ⟨l⟩ ⟨Q⟩ ⟨e,h⟩:=
 fun id=>AW.le hl (hd id)
theorem AW.regSplit{N:Nat}{Q:Exit→St→Prop}{e:Nat→AV}{h:Nat→Ob}{id:Nat}{l:List Oper}{y:Code}(k:Nat){pre suf:List Oper}(hp:l.take k=pre)(hs:l.drop k=suf){E:List (Nat×AV)}{H:List (Nat×Ob)}
  (h1:@Ch P N ⟨l⟩ ⟨pre⟩ ⟨fun σ'=>Le σ' ⟨ofL .un E,ofH H⟩⟩ e h) (h2:@Ch P N ⟨l⟩ ⟨suf⟩ ⟨fun σ=>@W P N ⟨y⟩ ⟨Q⟩ σ.env σ.hp⟩ (ofL .un E) (ofH H)):AW P N (.seq (.region id ⟨l⟩ false) y) Q ⟨e,h⟩:=by
 refine AW.seq fun L w0 R0 a w hi=>wp_region ?_
 have hl:l=pre++suf:=by rw[←hp,←hs,List.take_append_drop]
 have hr:List.range (⟨l⟩:Array Oper).size=List.range' 0 pre.length++(List.range' pre.length suf.length++[]):=by
  have hsz:(⟨l⟩:Array Oper).size=pre.length+suf.length:=by show l.length=_;rw[hl,List.length_append]
  rw[hsz,List.append_nil,List.range_eq_range',List.range'_append_1.symm,Nat.zero_add]
 rw[hr]
 refine Zm (K:=fun σ'=>Le σ' ⟨ofL .un E,ofH H⟩) (fun σ a w hi2 hle=>?_) pre 0 (fun j hj=>?_) hi h1
 ·refine Zm (K:=fun σ=>@W P N ⟨y⟩ ⟨Q⟩ σ.env σ.hp) (fun σ a w hi3 hq=>?_) suf pre.length (fun j hj=>?_) (hle L w0 R0 N a w hi2) h2
  ·exact⟨σ,hi3,W.sound hq⟩
  ·rw[List.getElem?_toArray,hl,List.getElem?_append_right (by omega),Nat.add_sub_cancel_left]
 ·rw[List.getElem?_toArray,hl,Nat.zero_add,List.getElem?_append_left hj]
end
end Go.Ab
namespace Go.Ab
open Go Go.Proofs
instance (lo hi:Int)(x:ExV):Decidable (x.bd lo hi):=inferInstanceAs (Decidable ((x.m=0→x.s=false)∧lo≤x.e∧(bl x.m:Int)+x.e≤hi))
instance (lo hi:Int)(x:SpV):Decidable (x.bd lo hi):=inferInstanceAs (Decidable (x.lo.bd lo hi∧x.hi.bd lo hi))
instance (lo hi:Int)(l:List ExV):Decidable (gbd lo hi l):=inferInstanceAs (Decidable (∀x∈l,x.bd lo hi))
instance (lo hi:Int)(l:List SpV):Decidable (sbd lo hi l):=inferInstanceAs (Decidable (∀x∈l,x.bd lo hi))
def hB:List SpV:=(yp 1 [ex0] (ex1.shift 0)).map ptS
def hSt:Nat→List SpV×List SpV
 |0=>((gId 1).map ptS,(gId 1).map ptS)
 |i+1=>(KS (hSt i).1 ((jS 1 (hSt i).2 hB).map fun s=>s.divd (i+1) (-22)),(jS 1 (hSt i).2 hB).map fun s=>s.divd (i+1) (-22))
def aL6:List SpV:=(hSt 7).1.map fun s=>s.fat (ex1.shift (-22))
def aD3:List SpV:=aL6.map fun s=>s.out (-14)
theorem ZN:∀i,(hSt i).1.length=1∧(hSt i).2.length=1
 |0=>by decide+kernel
 |i+1=>⟨KR.trans (ZN i).1,by show(List.map _ _).length=1;rw[List.length_map];exact ZO⟩
theorem aoN:∀i,i<8→sbd (-100000) 100000 (hSt i).1∧sbd (-100000) 100000 (hSt i).2∧sbd (-100000) 100000 (jS 1 (hSt i).2 hB):=by decide+kernel
theorem bb0:tmF 22=7:=by decide+kernel
set_option maxRecDepth 100000 in
theorem apR(n:Nat)(h1:n=1):Con Tryz.prog 148 false [.ag [.v (.int .i64 (n)),.sl ([ex0]).length (qz ExV.cs ([ex0]))],.v (.int .i64 (-10))] [] (isA (.ag [.v (.int .i64 (n)),.sl (aD3).length (qz SpV.cs (aD3))])):=by
 refine Con.frzA ?_
 have hn:n≤4:=by omega
 have cn:=YK n [ex0] hn (by rw[h1];rfl) (by decide+kernel)
 rw[show ym n [ex0] n=ex0 by rw[h1];decide+kernel]at cn
 have cz:Con Tryz.prog 193 true [.ag [.v (.bool (ex0).s),.sl (lim (ex0).m).length (qg (lim (ex0).m)),.v (.int .i64 (ex0).e)]] [] (isA (.v (.bool true))):=js ex0.s ex0.m ex0.e
 have cs:=QK ex1 0 (by decide) (by decide)
 have cg:=adC n [ex0] (ex1.shift 0) hn (by rw[h1];rfl) (by decide+kernel) (by decide+kernel)
 have cf:=Z5 n (yp n [ex0] (ex1.shift 0)) (by show(gl _ _ _).length≤_;rw[ZP,h1];decide)
 rw[show(yp n [ex0] (ex1.shift 0)).map ptS=hB by rw[h1];rfl]at cf
 have ci:=aLa n hn
 have cfi:=Z5 n (gId n) (by show(gl _ _ _).length≤_;rw[ZP,h1];decide)
 rw[show(gId n).map ptS=(hSt 0).1 by rw[h1];rfl]at cfi
 have ct:Con Tryz.prog 225 true [.v (.int .i64 (-22))] [] (isA (.v (.int .i64 7))):=by have:=apn 22 (by omega);rw[bb0]at this;exact this
 have hw:(-10-2*0-12:Int)= -22:=rfl
 have cs2:=QK ex1 (-22) (by decide) (by decide)
 have cft:=aCc n (hSt 7).1 (ex1.shift (-22)) (by rw[(ZN 7).1];decide) (j2 (aoN 7 (by decide)).1 (by omega) (by omega)) (by decide+kernel)
 change Con _ _ _ _ _ (isA (.ag [.v (.int .i64 (n)),.sl (aL6).length (qz SpV.cs (aL6))]))at cft
 have cot:=aCb n aL6 (-14) (by show(List.map _ _).length≤_;rw[List.length_map,(ZN 7).1];decide) (by decide+kernel) (by omega)
 change Con _ _ _ _ _ (isA (.ag [.v (.int .i64 (n)),.sl (aD3).length (qz SpV.cs (aD3))]))at cot
 generalize yp n [ex0] (ex1.shift 0)=G at*
 generalize gId n=I at*
 refine Con.of_w (rs:=[.cell 4 157]) Tryz.func148 rfl Tryz.ntmps148 rfl ?_
 simp(disch:=omega)only[go_sem]
 refine qa (cn) ?_
 simp(disch:=omega)only[go_sem]
 refine qb (cz) ?_
 simp(disch:=omega)only[go_sem]
 rw[hw]
 refine qo rfl [⟨0,[],[]⟩,⟨2,[0],[]⟩,⟨3,[0],[]⟩,⟨7,[0],[]⟩,⟨1,[0],[100000000]⟩,⟨4,[0],[100000000]⟩,⟨5,[],[100000000]⟩,⟨6,[],[100000000]⟩,⟨8,[],[]⟩] (by kernel_rfl) ?_
 simp(disch:=omega)only[go_sem]
 refine qa (YJ) ?_
 simp(disch:=omega)only[go_sem]
 refine qa (cs) ?_ (by simp(disch:=omega)only[go_sem,show(0-0:Int)=0 from rfl])
 simp(disch:=omega)only[go_sem]
 refine qa (cg) ?_
 simp(disch:=omega)only[go_sem]
 refine qa (cf) ?_
 simp(disch:=omega)only[go_sem]
 refine qa (ci) ?_
 simp(disch:=omega)only[go_sem]
 refine qa (cfi) ?_
 simp(disch:=omega)only[go_sem]
 refine qk (fun i:Nat=>[(1,.v (.int .i64 (-10))),(4,.pt 0 0),(6,.v (.int .i64 0)),(7,.v (.int .i64 (-22))),(8,.pt 1 0),(9,.pt 2 0),(10,.pt 3 0),(11,.v (.int .i64 ((i:Int)+1)))])
  (fun i=>[(0,.own 0 [.v (.int .i64 0),.v (.slice none 0 0)]),(1,.own 0 [.v (.int .i64 n),.sl hB.length (qz SpV.cs hB)]),(2,.own 0 [.v (.int .i64 n),.sl (hSt i).1.length (qz SpV.cs (hSt i).1)]),(3,.own 0 [.v (.int .i64 n),.sl (hSt i).2.length (qz SpV.cs (hSt i).2)])])
  (fun i=>i≤7) (fun i=>7-i) 0 (by omega)
  (Le.lst [(0,60000000),(1,100000000),(2,110000000),(3,120000000)] _ _ rfl (by simp(disch:=omega)only[go_sem,show(0:Int)+1=1 from rfl]) (by simp(disch:=omega)only[go_sem,show(hSt 0).2=(hSt 0).1 from rfl])) ?_
 intro i hi
 obtain⟨b1,b2,b3⟩:=aoN i (by omega)
 obtain⟨l1,l2⟩:=ZN i
 have ei:(i:Int)+1=((i+1:Nat):Int):=by omega
 have hBl:hB.length=1:=by decide+kernel
 have hBb:sbd (-190000) 190000 hB:=by decide+kernel
 have cT:=ai5 n (hSt i).2 hB hn (by rw[h1,l2]) (by rw[h1,hBl]) (j2 b2 (by omega) (by omega)) hBb
 rw[show jS n (hSt i).2 hB=jS 1 (hSt i).2 hB by rw[h1]]at cT
 have hTl:(jS 1 (hSt i).2 hB).length=1:=ZO
 have cD:=aCd n (jS 1 (hSt i).2 hB) (i+1) (-22) (by omega) b3 (by omega) (by omega) (by omega)
 rw[←ei]at cD
 change Con _ _ _ _ _ (isA (.ag [.v (.int .i64 (n)),.sl ((hSt (i+1)).2).length (qz SpV.cs ((hSt (i+1)).2))]))at cD
 simp(disch:=omega)only[go_sem]
 refine qb (ct) ?_
 simp(disch:=omega)only[go_sem]
 refine qe (fun h2=>?_) (fun h2=>?_)
 ·have b4:=(aoN (i+1) (by omega)).2.1
  have cP:=apW n (hSt i).1 (hSt (i+1)).2 (by omega) (by rw[l1];exact(ZN (i+1)).2) (j2 b1 (by omega) (by omega)) (j2 b4 (by omega) (by omega))
  change Con _ _ _ _ _ (isA (.ag [.v (.int .i64 (n)),.sl ((hSt (i+1)).1).length (qz SpV.cs ((hSt (i+1)).1))]))at cP
  generalize jS 1 (hSt i).2 hB=T at*
  generalize hS2:(hSt (i+1)).2=S2 at*
  generalize hS1:(hSt (i+1)).1=S1 at*
  simp(disch:=omega)only[go_sem,h2]
  refine qa (cT) ?_
  simp(disch:=omega)only[go_sem]
  refine qa (cD) ?_
  simp(disch:=omega)only[go_sem]
  refine qa (cP) ?_
  simp(disch:=omega)only[go_sem]
  exact qh (i+1) [] (by show i+1≤7;omega) (by show 7-(i+1)<7-i;omega) rfl (by simp(disch:=omega)only[go_sem];try omega) (by simp(disch:=omega)only[go_sem,hS1,hS2])
 ·obtain rfl:i=7:=by omega
  simp(disch:=omega)only[go_sem,h2]
  refine qo rfl [⟨0,[],[]⟩,⟨2,[0],[]⟩,⟨1,[0],[]⟩,⟨3,[0],[]⟩,⟨4,[],[]⟩,⟨5,[],[]⟩] (by kernel_rfl) ?_
  simp(disch:=omega)only[go_sem]
  refine qa (YJ) ?_
  simp(disch:=omega)only[go_sem]
  refine qa (cs2) ?_
  simp(disch:=omega)only[go_sem]
  refine qa (cft) ?_
  simp(disch:=omega)only[go_sem]
  refine qk (fun _:Nat=>[(1,.v (.int .i64 (-10))),(4,.pt 0 0),(9,.pt 2 0),(58,.v (.int .i64 0)),(59,.v (.int .i64 0))])
   (fun _=>[(0,.own 0 [.v (.int .i64 0),.v (.slice none 0 0)]),(2,.own 0 [.v (.int .i64 n),.sl aL6.length (qz SpV.cs aL6)])]) (fun _=>True) (fun _=>0) 0 trivial (Le.lst [] _ _ rfl (by simp(disch:=omega)only[go_sem]) (by simp(disch:=omega)only[go_sem])) ?_
  intro _ _
  have q:decide ((0:Int)<0)=false:=rfl
  simp(disch:=omega)only[go_sem,q]
  refine qa (cot) ?_ (by simp(disch:=omega)only[go_sem,show(-10-4:Int)= -14 from rfl])
  simp(disch:=omega)only[go_sem]
  exact qn
end Go.Ab
namespace Go.Ab
open Go Go.Proofs
section
variable (g:Nat)(p:DyV→Bool)
theorem aja(x:DyV)(hf:Con Tryz.prog g true [.ag x.cs] [] (isA (.v (.bool (p x)))))(hg:qs Tryz.prog g=True):
  Con Tryz.prog 283 true [.ag x.cs,.fp [.fn g []] 0] [] (isA (.v (.bool (!p x)))):=by
 unfold DyV.cs at hf ⊢
 refine Con.of_w (rs:=[.tmp 3]) Tryz.func283 rfl Tryz.ntmps283 rfl ?_
 simp(disch:=omega)only[go_sem,hg]
 refine qB hf (by simp(disch:=omega)only[go_sem]) ?_
 rintro r hs ⟨rfl,rfl,_⟩
 refine⟨by simp[qS],?_⟩
 simp(disch:=omega)only[go_sem]
 exact qq
theorem adA(f:Nat)(caps:List AV)(xs:List DyV)(hl:xs.length≤2^40)(hf:∀x∈xs,Con Tryz.prog f true (.ag x.cs::caps) [] (isA (.v (.bool (p x)))))(hg:qs Tryz.prog f=True)
  (hc:∀h:Nat→Ob,caps.map (qP h 6)=caps) (hc5:∀h:Nat→Ob,caps.map (qP h 5)=caps) (hn:∀ks,AllL (yi ks) caps) (hr:∀ρ,jk ρ caps=caps):
  Con Tryz.prog 304 true [.sl xs.length (qz DyV.cs xs),.fn f caps] [] (fun r hs bs=>∃i:Int,r=.v (.int .i64 i)∧hs=[]∧(0≤i↔∃x∈xs,p x=true)):=by
 refine Con.of_aw Tryz.func304 rfl Tryz.ntmps304 (by simp) (by simp) (by simp) (W.sound ?_)
 show @W Tryz.prog 19 ⟨_⟩ ⟨fun x σ=>@za _ _ _ ⟨_⟩ _ ⟨_⟩ x σ⟩ _ _
 simp(disch:=omega)only[go_sem]
 refine qk (fun i:Nat=>[(0,.sl xs.length (qz DyV.cs xs)),(1,.fn f caps),(6,.sl xs.length (qz DyV.cs xs)),(7,.v (.int .i64 xs.length)),(8,.v (.int .i64 i))])
  (fun _=>[]) (fun i=>i≤xs.length∧∀j,j<i→p (xs.getD j ⟨false,[],0⟩)=false) (fun i=>xs.length-i) 0 ⟨by omega,fun j hj=>by omega⟩ (Le.lst [] _ _ rfl (by simp(disch:=omega)only[go_sem,hr,hn]) (by simp(disch:=omega)only[go_sem])) ?_
 rintro i ⟨hi,hp⟩
 simp(disch:=omega)only[go_sem]
 refine qe (fun h1=>?_) (fun h1=>?_)
 ·have hcut:=ac1 (l:=xs) aEe (i:=i) (by omega) ⟨false,[],0⟩
  simp(disch:=omega)only[go_sem,h1,hcut,hg]
  refine⟨by omega,by omega,qB (hf (xs.getD i ⟨false,[],0⟩) (by rw[List.getD_eq_getElem?_getD,List.getElem?_eq_getElem (by omega)];exact List.getElem_mem _)) (by simp(disch:=omega)only[go_sem,hc,hc5]) ?_⟩
  rintro r hs ⟨rfl,rfl,_⟩
  refine⟨by simp[qS],?_⟩
  simp(disch:=omega)only[go_sem]
  refine zY (fun h2=>?_) (fun h2=>?_)
  ·simp(disch:=omega)only[go_sem,h2]
   refine qc (by simp(disch:=omega)only[go_sem]) (by simp(disch:=omega)only[go_sem]) ⟨i,rfl,rfl,?_⟩
   refine⟨fun _=>⟨_,?_,h2⟩,fun _=>by omega⟩
   rw[List.getD_eq_getElem?_getD,List.getElem?_eq_getElem (by omega)];exact List.getElem_mem _
  ·simp(disch:=omega)only[go_sem,h2]
   refine qh (i+1) [] ⟨by omega,fun j hj=>?_⟩ (by show xs.length-(i+1)<xs.length-i;omega) rfl (by simp(disch:=omega)only[go_sem,hr,hn];try omega) (by simp(disch:=omega)only[go_sem])
   rcases(by omega:j<i∨j=i)with h|h
   ·exact hp j h
   ·subst h;exact h2
 ·simp(disch:=omega)only[go_sem,h1]
  refine qc (by simp(disch:=omega)only[go_sem]) (by simp(disch:=omega)only[go_sem]) ⟨-1,rfl,rfl,?_⟩
  refine⟨fun h=>by omega,fun⟨x,hx,hpx⟩=>?_⟩
  obtain⟨j,hj,rfl⟩:=List.getElem_of_mem hx
  have:=hp j (by omega)
  rw[List.getD_eq_getElem?_getD,List.getElem?_eq_getElem hj]at this
  simp only[Option.getD_some]at this
  rw[this]at hpx;cases hpx
theorem Jo(f:Nat)(caps:List AV)(xs:List DyV)(hl:xs.length≤2^40)(hf:∀x∈xs,Con Tryz.prog f true (.ag x.cs::caps) [] (isA (.v (.bool (p x)))))(hg:qs Tryz.prog f=True)
  (hc:∀h:Nat→Ob,caps.map (qP h 6)=caps) (hc5:∀h:Nat→Ob,caps.map (qP h 5)=caps) (hn:∀ks,AllL (yi ks) caps) (hr:∀ρ,jk ρ caps=caps):
  Con Tryz.prog 282 true [.sl xs.length (qz DyV.cs xs),.fn f caps] [] (isA (.v (.bool (xs.any p)))):=by
 refine Con.of_aw Tryz.func282 rfl Tryz.ntmps282 (by simp) (by simp) (by simp) (W.sound ?_)
 show @W Tryz.prog 9 ⟨_⟩ ⟨fun x σ=>@za _ _ _ ⟨_⟩ _ ⟨_⟩ x σ⟩ _ _
 simp(disch:=omega)only[go_sem]
 refine qB (adA p f caps xs hl hf hg hc hc5 hn hr) (by simp(disch:=omega)only[go_sem,hc,hc5]) ?_
 rintro r hs ⟨i,rfl,rfl,hi⟩
 refine⟨by simp[qS],?_⟩
 simp(disch:=omega)only[go_sem]
 refine qc (by simp(disch:=omega)only[go_sem]) (by simp(disch:=omega)only[go_sem]) ⟨?_,rfl,rfl⟩
 have:decide (0≤i)=xs.any p:=by rw[Bool.eq_iff_iff,decide_eq_true_eq,hi,List.any_eq_true]
 rw[this];rfl
theorem ap2(xs:List DyV)(hl:xs.length≤2^40)(hf:∀x∈xs,Con Tryz.prog g true [.ag x.cs] [] (isA (.v (.bool (p x)))))(hg:qs Tryz.prog g=True):
  Con Tryz.prog 238 true [.sl xs.length (qz DyV.cs xs),.fn g []] [] (isA (.v (.bool (xs.all p)))):=by
 refine Con.of_aw Tryz.func238 rfl Tryz.ntmps238 (by simp) (by simp) (by simp) (W.sound ?_)
 show @W Tryz.prog 9 ⟨_⟩ ⟨fun x σ=>@za _ _ _ ⟨_⟩ _ ⟨_⟩ x σ⟩ _ _
 simp(disch:=omega)only[go_sem]
 refine qB (Jo (fun x=> !p x) 283 [.fp [.fn g []] 0] xs hl (fun x hx=>aja g p x (hf x hx) hg) (by simp(disch:=omega)only[go_sem]) (fun h=>rfl) (fun h=>rfl) (fun ks=>by simp(disch:=omega)only[go_sem]) (fun ρ=>rfl)) (by simp(disch:=omega)only[go_sem]) ?_
 rintro r hs ⟨rfl,rfl,_⟩
 refine⟨by simp[qS],?_⟩
 simp(disch:=omega)only[go_sem]
 refine qc (by simp(disch:=omega)only[go_sem]) (by simp(disch:=omega)only[go_sem]) ⟨?_,rfl,rfl⟩
 have:(!xs.any fun x=> !p x)=xs.all p:=by rw[List.all_eq_not_any_not]
 rw[this];rfl
end
def DyV.ok(x:DyV):Bool:=dyB x.s x.xs x.e
theorem ai9(xs:List DyV)(hl:xs.length≤2^40)(hx:∀x∈xs,x.xs.length≤2^40):Con Tryz.prog 161 true [.sl xs.length (qz DyV.cs xs)] [] (isA (.v (.bool (xs.all DyV.ok)))):=by
 refine Con.of_w (rs:=[.tmp 2]) Tryz.func161 rfl Tryz.ntmps161 rfl ?_
 simp(disch:=omega)only[go_sem]
 refine qb (ap2 63 DyV.ok xs hl (fun x h=>YO x.s x.xs x.e (hx x h)) (by simp(disch:=omega)only[go_sem])) ?_
 simp(disch:=omega)only[go_sem]
 exact qq
def aTi(n:Int)(l:List DyV):Bool:=(decide (1≤n)&&decide (n≤4))&&(decide ((l.length:Int)=n*n)&&l.all DyV.ok)
theorem ap4(n:Int)(l:List DyV)(hl:l.length≤2^40)(hx:∀x∈l,x.xs.length≤2^40):Con Tryz.prog 76 true [.ag [.v (.int .i64 n),.sl l.length (qz DyV.cs l)]] [] (isA (.v (.bool (aTi n l)))):=by
 unfold aTi
 cases h1:(decide (1≤n)&&decide (n≤4))
 ·rw[Bool.false_and]
  refine Con.of_w (rs:=[.tmp 2]) Tryz.func76 rfl Tryz.ntmps76 rfl ?_
  simp(disch:=omega)only[go_sem]
  refine qb (zA n 1 4) ?_
  simp(disch:=omega)only[go_sem]
  simp(disch:=omega)only[go_sem,h1]
  exact qq
 ·rw[Bool.true_and]
  have h1':1≤n∧n≤4:=by simpa using h1
  have hq:0≤n*n∧n*n≤16:=⟨Int.mul_nonneg (by omega) (by omega),Int.mul_le_mul h1'.2 h1'.2 (by omega) (by omega)⟩
  cases h2:decide ((l.length:Int)=n*n)
  ·rw[Bool.false_and]
   refine Con.of_w (rs:=[.tmp 2]) Tryz.func76 rfl Tryz.ntmps76 rfl ?_
   simp(disch:=omega)only[go_sem]
   refine qb (zA n 1 4) ?_
   simp(disch:=omega)only[go_sem]
   simp(disch:=omega)only[go_sem,h1,h2]
   exact qq
  ·rw[Bool.true_and]
   refine Con.of_w (rs:=[.tmp 2]) Tryz.func76 rfl Tryz.ntmps76 rfl ?_
   simp(disch:=omega)only[go_sem]
   refine qb (zA n 1 4) ?_
   simp(disch:=omega)only[go_sem]
   simp(disch:=omega)only[go_sem,h1,h2]
   refine qb (ai9 l hl hx) ?_
   simp(disch:=omega)only[go_sem]
   exact qq
end Go.Ab
namespace Go.Ab
open Go Go.Proofs
def ExV.dy(x:ExV):DyV:=⟨x.s,lim x.m,x.e⟩
theorem aNf(l:List ExV):qz ExV.cs l=qz DyV.cs (l.map ExV.dy):=by unfold qz;rw[List.map_map];rfl
def ExV.ok(x:ExV):Bool:=dyB x.s (lim x.m) x.e
def aOb(n:Int)(l:List ExV):Bool:=(decide (1≤n)&&decide (n≤4))&&(decide ((l.length:Int)=n*n)&&l.all ExV.ok)
theorem aJB(n:Int)(l:List ExV):aTi n (l.map ExV.dy)=aOb n l:=by
 unfold aTi aOb
 rw[List.length_map,List.all_map];rfl
theorem ajb(n:Int)(l:List ExV)(hl:l.length≤2^40)(hx:∀x∈l,(lim x.m).length≤2^40):Con Tryz.prog 76 true [.ag [.v (.int .i64 n),.sl l.length (qz ExV.cs l)]] [] (isA (.v (.bool (aOb n l)))):=by
 have:=ap4 n (l.map ExV.dy) (by rw[List.length_map];exact hl) (fun x h=>by
  obtain⟨y,hy,rfl⟩:=List.mem_map.1 h
  exact hx y hy)
 rw[aJB,←aNf,List.length_map]at this
 exact this
theorem aYs{x:ExV}(h:x.ok=true):x.bd (-3000) 4600:=by
 obtain⟨m,e1,h1,h2,h3,_,h4⟩:=jL h
 have e2:x.m=m:=jH e1
 subst e2
 exact⟨h4,by omega,by omega⟩
def aiu(F:List SpV)(X:List ExV)(k:Nat):List ExV:=(List.range k).map fun i=>zJ [((F.getD i sp0).hi.plus (X.getD i ex0).neg).abs,((X.getD i ex0).plus (F.getD i sp0).lo.neg).abs]
theorem Qc{F:List SpV}{X:List ExV}{k:Nat}:(aiu F X k).length=k:=by simp[aiu]
theorem aod{F:List SpV}{X:List ExV}{k:Nat}:aiu F X (k+1)=aiu F X k++[zJ [((F.getD k sp0).hi.plus (X.getD k ex0).neg).abs,((X.getD k ex0).plus (F.getD k sp0).lo.neg).abs]]:=by simp[aiu,List.range_succ]
theorem aoc{lo hi:Int}{s:SpV}{x:ExV}(hs:s.bd lo hi)(hx:x.bd lo hi):gbd lo (hi+1) [(s.hi.plus x.neg).abs,(x.plus s.lo.neg).abs]:=by
 intro y hy
 simp only[List.mem_cons,List.not_mem_nil,or_false]at hy
 rcases hy with rfl|rfl
 ·exact ExV.abs_bd (ExV.plus_bd hs.2 (ExV.neg_bd hx))
 ·exact ExV.abs_bd (ExV.plus_bd hx (ExV.neg_bd hs.1))
theorem aI4{lo hi:Int}{F:List SpV}{X:List ExV}{k:Nat}(hF:sbd lo hi F)(hX:gbd lo hi X)(h1:k≤F.length)(h2:k≤X.length):gbd lo (hi+1) (aiu F X k):=by
 intro y hy
 simp only[aiu,List.mem_map,List.mem_range]at hy
 obtain⟨i,hi,rfl⟩:=hy
 exact Zg (aoc (jG hF (by omega)) (zL hX (by omega))) (by simp)
def aeo(n:Nat)(F:List SpV)(low:Int):List ExV:=aJ1 n (F.map ada) low 0
def jT(n:Nat)(F:List SpV)(low:Int):ExV:=ym n (aiu F (aeo n F low) (n*n)) n
theorem aJA{lo hi:Int}{s:SpV}(hs:s.bd lo hi):(ada s).bd (lo-1) hi:=by
 have:=ExV.shift_bd (k:= -1) (ExV.plus_bd hs.1 hs.2)
 exact this.mono (by omega) (by omega)
theorem aJ0{lo hi low mode:Int}{n:Nat}{l:List ExV}(hl:l.length=n*n)(h:gbd lo hi l)(h1:lo≤low)(h2:low≤hi):gbd lo (hi+1) (aJ1 n l low mode):=
 aYA fun i j hi hj=>ExV.rnd_bd (zL h (by rw[hl];exact Qj hi hj)) h1 h2
set_option maxRecDepth 100000 in
set_option maxHeartbeats 2000000 in
theorem adK(n:Nat)(L:List ExV)(low:Int)(F:List SpV)(hn:n≤4)(hL:L.length=n*n)(hlow: -1000≤low∧low≤1000)(ca:Con Tryz.prog 147 true [.ag [.v (.int .i64 (n)),.sl (L).length (qz ExV.cs (L))],.v (.int .i64 low)] [] (isA (.v (.bool true))))
  (ch:Con Tryz.prog 148 false [.ag [.v (.int .i64 (n)),.sl (L).length (qz ExV.cs (L))],.v (.int .i64 low)] [] (isA (.ag [.v (.int .i64 (n)),.sl (F).length (qz SpV.cs (F))]))) (hF:F.length=n*n) (hFb:sbd (-300000) 300000 F) (hfit:F.all SpV.fit=true):
  Con Tryz.prog 70 false [.ag [.v (.int .i64 (n)),.sl (L).length (qz ExV.cs (L))],.v (.int .i64 low)] []
   (isA (if((aeo n F low).all ExV.fit&&(jT n F low).fit)=true then .tu [.ag [.v (.int .i64 n),.sl (aeo n F low).length (qz ExV.cs ((aeo n F low).map ExV.can))],.ag [.v (.bool ((jT n F low).can).s),.sl (lim ((jT n F low).can).m).length (qg (lim ((jT n F low).can).m)),.v (.int .i64 ((jT n F low).can).e)],.v (.bool true)]else .tu [.ag [.v (.int .i64 0),.sl 0 []],.ag [.v (.bool (false)),.sl (lim (0)).length (qg (lim (0))),.v (.int .i64 (0))],.v (.bool false)])):=by
 refine Con.frzA ?_
 have hq:=anH hn
 have cg:=ZZ n L (by omega)
 have cv:=apQ n F (by omega) (j2 hFb (by omega) (by omega))
 rw[hfit,if_pos rfl]at cv
 have cm:=aK6 n F (by omega) (j2 hFb (by omega) (by omega))
 have hml:(F.map ada).length=n*n:=by rw[List.length_map,hF]
 have hmb:gbd (-300001) 300000 (F.map ada):=by
  intro x hx
  obtain⟨s,hs,rfl⟩:=List.mem_map.1 hx
  exact(aJA (hFb s hs)).mono (by omega) (by omega)
 have cr:=aB8 n (F.map ada) low 0 hn hml (Zj hmb (by omega) (by omega)) (by omega)
 have hXl:(aeo n F low).length=n*n:=by unfold aeo aJ1;exact ZP
 have hXb:gbd (-300001) 300001 (aeo n F low):=aJ0 hml hmb (by omega) (by omega)
 change Con _ _ _ _ _ (isA (.ag [.v (.int .i64 (n)),.sl (aeo n F low).length (qz ExV.cs (aeo n F low))]))at cr
 have hOb:gbd (-300001) 300002 (aiu F (aeo n F low) (n*n)):=aI4 (j2 hFb (by omega) (by omega)) hXb (by omega) (by omega)
 have cno:=YK n (aiu F (aeo n F low) (n*n)) hn Qc (Zj hOb (by omega) (by omega))
 change Con _ _ _ _ _ (isA (.ag [.v (.bool (jT n F low).s),.sl (lim (jT n F low).m).length (qg (lim (jT n F low).m)),.v (.int .i64 (jT n F low).e)]))at cno
 have hFar:(jT n F low).bd (-300001) 300006:=(Yh Qc hOb (by omega) n (Nat.le_refl _)).mono (by omega) (by omega)
 have cw:=Jn n (aeo n F low) (jT n F low) (by omega) (Zj hXb (by omega) (by omega)) (hFar.mono (by omega) (by omega))
 generalize jT n F low=far at*
 generalize aeo n F low=X at*
 generalize F.map ada=M at*
 generalize F.map SpV.can=FC at*
 refine Con.of_w (rs:=[.cell 4 42,.cell 5 29,.tmp 6]) Tryz.func70 rfl Tryz.ntmps70 rfl ?_
 simp(disch:=omega)only[go_sem]
 refine qb (ca) ?_
 simp(disch:=omega)only[go_sem]
 refine qa (cg) ?_
 simp(disch:=omega)only[go_sem]
 refine qa (ch) ?_
 simp(disch:=omega)only[go_sem]
 refine qa (cv) ?_
 simp(disch:=omega)only[go_sem]
 refine qa (cm) ?_
 simp(disch:=omega)only[go_sem]
 refine qa (cr) ?_
 simp(disch:=omega)only[go_sem]
 refine qk (fun i:Nat=>[(4,.pt 2 0),(5,.pt 3 0),(7,.pt 4 0),(10,.pt 5 0),(11,.pt 0 0),(41,.sl F.length (qz SpV.cs F)),(42,.v (.int .i64 F.length)),(43,.v (.int .i64 i))])
  (fun i=>[(0,.own 0 [.v (.int .i64 n),.rf 1 0 i]),(1,.own 3 (qz ExV.cs (aiu F X i))),(2,.own 0 [.v (.int .i64 0),.v (.slice none 0 0)]),(3,.own 0 [.v (.bool false),.v (.slice none 0 0),.v (.int .i64 0)]),(4,.own 0 [.v (.int .i64 n),.sl F.length (qz SpV.cs F)]),(5,.own 0 [.v (.int .i64 n),.sl X.length (qz ExV.cs X)])])
  (fun i=>i≤F.length) (fun i=>F.length-i) 0 (by omega)
  ((Le.ghostC 130000000 1 1 3 (zo:=0) (cs:=[.v (.int .i64 n),.v (.slice none 0 0)]) (by simp(disch:=omega)only[go_sem]) rfl (by simp(disch:=omega)only[go_sem])).trans (Le.lst [(0,130000000),(2,60000000),(3,70000000),(4,90000000),(5,120000000)] _ _ rfl (by simp(disch:=omega)only[go_sem]) (by simp(disch:=omega)only[go_sem,show aiu F X 0=[] from rfl,YC,List.set_cons_succ,List.set_cons_zero]))) ?_
 intro i hi
 simp(disch:=omega)only[go_sem]
 refine qe (fun h1=>?_) (fun h1=>?_)
 ·have hi2:i<F.length:=by omega
  have hci:=yQ hi2
  have hcx:=jx (l:=X) (i:=i) (by omega)
  have hcut:=zO (Qc (F:=F) (X:=X) (k:=i))
  have hs:=aod (F:=F) (X:=X) (k:=i)
  have bs:=jG hFb hi2
  have bx:=zL hXb (show i<X.length by omega)
  have b2:=aoc (SpV.bd.mono bs (by omega) (by omega)) bx
  generalize F.getD i sp0=s at*
  generalize X.getD i ex0=x at*
  simp(disch:=omega)only[go_sem,h1,hci]
  refine⟨by omega,by omega,?_⟩
  refine qo rfl [⟨0,[],[]⟩,⟨1,[],[]⟩,⟨2,[1],[]⟩,⟨3,[1],[]⟩,⟨4,[1,3],[]⟩,⟨5,[1,3],[]⟩,⟨6,[1,3,5],[]⟩,⟨7,[1,3],[]⟩,⟨8,[1,3],[]⟩,⟨11,[1,3,5,8],[]⟩,⟨12,[1,3,5,8],[]⟩,⟨13,[1,3,5,8,12],[]⟩,⟨14,[1,3,5,8],[]⟩,⟨15,[1,3,5,8],[]⟩,⟨16,[1,3,5,8,12,15],[]⟩,⟨17,[1,3,5,8,12,15],[]⟩,⟨9,[1,12,15,17],[]⟩,⟨10,[1,12,15,17],[]⟩,⟨18,[1],[]⟩,⟨19,[1],[]⟩,⟨20,[1],[]⟩,⟨21,[1],[]⟩,⟨22,[1],[]⟩,⟨23,[],[]⟩,⟨24,[],[]⟩,⟨25,[],[]⟩] (by kernel_rfl) ?_
  simp(disch:=omega)only[go_sem,hcx]
  refine⟨by omega,by omega,by omega,by omega,?_⟩
  refine qa (QM s.hi x (bs.2.mono (by omega) (by omega)) (bx.mono (by omega) (by omega))) ?_
  simp(disch:=omega)only[go_sem]
  refine qa (YR (s.hi.plus x.neg)) ?_
  simp(disch:=omega)only[go_sem]
  refine qa (QM x s.lo (bx.mono (by omega) (by omega)) (bs.1.mono (by omega) (by omega))) ?_
  simp(disch:=omega)only[go_sem]
  refine qa (YR (x.plus s.lo.neg)) ?_
  simp(disch:=omega)only[go_sem]
  generalize (s.hi.plus x.neg).abs=A at*
  generalize (x.plus s.lo.neg).abs=B at*
  have hrow:([.v (.bool A.s),.sl (lim A.m).length (qg (lim A.m)),.v (.int .i64 A.e),.v (.bool B.s),.sl (lim B.m).length (qg (lim B.m)),.v (.int .i64 B.e)]:List AV)=qz ExV.cs [A,B]:=rfl
  rw[hrow]
  refine zk false [700000000] (KX [A,B] (by simp) (by simp) (Zj b2 (by omega) (by omega))) (by simp(disch:=omega)only[go_sem]) (by simp(disch:=omega)only[go_sem]) rfl (zg (z:=3) (cs:=qz ExV.cs [A,B]) (by simp(disch:=omega)only[go_sem]) (by simp(disch:=omega)only[go_sem])) (by intro n hn;exact⟨_,List.mem_cons_self ..,by rw[List.mem_singleton.1 hn];rfl⟩) ?_
  rintro r hs2 bs2 ⟨rfl,rfl,rfl⟩-
  refine⟨by simp[qS],?_⟩
  simp(disch:=omega)only[go_sem,hcut,Qp]
  refine⟨⟨by rw[Qc];exact Nat.le_refl _,by omega⟩,qh (i+1) [(1,730000000)] (by show i+1≤_;omega) (by show F.length-(i+1)<F.length-i;omega) rfl (by simp(disch:=omega)only[go_sem];try omega) (by simp(disch:=omega)only[go_sem,hs])⟩
 ·simp(disch:=omega)only[go_sem,h1]
  obtain rfl:i=F.length:=by omega
  have hol:=Qc (F:=F) (X:=X) (k:=n*n)
  rw[hF]
  generalize aiu F X (n*n)=O at*
  rw[hol]at cno
  refine aK3 (E:=[(4,.pt 2 0),(5,.pt 3 0),(10,.pt 5 0),(11,.pt 0 0)]) (H:=[(0,.own 0 [.v (.int .i64 n),.sl (n*n) (qz ExV.cs O)]),(2,.own 0 [.v (.int .i64 0),.v (.slice none 0 0)]),(3,.own 0 [.v (.bool false),.v (.slice none 0 0),.v (.int .i64 0)]),(5,.own 0 [.v (.int .i64 n),.sl X.length (qz ExV.cs X)])])
   ((Le.frz 1 (z:=3) (ks:=qz ExV.cs O) (by simp(disch:=omega)only[go_sem]) rfl (by simp(disch:=omega)only[go_sem])).trans (Le.lst [] _ _ rfl (by simp(disch:=omega)only[go_sem]) (by simp(disch:=omega)only[go_sem,zO hol]))) ?_
  refine qo rfl [⟨0,[],[]⟩,⟨1,[0],[]⟩,⟨2,[0],[]⟩,⟨3,[],[]⟩,⟨4,[],[]⟩,⟨5,[],[]⟩,⟨6,[],[]⟩,⟨7,[],[]⟩,⟨8,[],[]⟩,⟨9,[],[]⟩] (by kernel_rfl) ?_
  simp(disch:=omega)only[go_sem]
  refine qa (cno) ?_
  simp(disch:=omega)only[go_sem]
  cases hc:(X.all ExV.fit&&far.fit)
  ·rw[hc,if_neg (by simp)]at cw
   rw[if_neg (by simp)]
   refine qa (cw) ?_
   simp(disch:=omega)only[go_sem]
   exact qn (hp:=by simp(disch:=omega)only[go_sem,qm,List.length_nil,jn])
  ·rw[hc,if_pos rfl]at cw
   rw[if_pos rfl]
   refine qa (cw) ?_
   simp(disch:=omega)only[go_sem]
   exact qn
theorem K4(n:Nat)(h1:n=1):Con Tryz.prog 147 true [.ag [.v (.int .i64 (n)),.sl ([ex0]).length (qz ExV.cs ([ex0]))],.v (.int .i64 (-10))] [] (isA (.v (.bool true))):=by
 have cm:=ajb n [ex0] (by decide) (by intro x hx;rw[List.mem_singleton.1 hx];show(lim 0).length≤_;rw[qm];decide)
 have hm:aOb n [ex0]=true:=by
  rw[h1];unfold aOb;rw[List.all_cons,List.all_nil,show ex0.ok=true by show dyB false (lim 0) 0=true;rw[qm];decide];decide
 rw[hm]at cm
 have cg:=ZZ n [ex0] (by decide)
 have cn:=YK n [ex0] (by omega) (by rw[h1];rfl) (by decide+kernel)
 rw[show ym n [ex0] n=ex0 by rw[h1];decide+kernel]at cn
 have cc:=Zl ex0 (exN 64) (by decide+kernel) (by decide+kernel)
 rw[show ex0.cmp (exN 64)= -1 by decide+kernel]at cc
 have q:decide ((-1:Int)≤0)=true:=rfl
 have q1:(decide ((-120:Int)≤ -10)&&decide ((-10:Int)≤0))=true:=rfl
 have cwi:=zA (-10) (-120) 0
 rw[q1]at cwi
 refine Con.of_w (rs:=[.tmp 4]) Tryz.func147 rfl Tryz.ntmps147 rfl ?_
 simp(disch:=omega)only[go_sem]
 refine qb (cm) ?_
 simp(disch:=omega)only[go_sem]
 refine qb (cwi) ?_
 simp(disch:=omega)only[go_sem]
 refine qa (cg) ?_
 simp(disch:=omega)only[go_sem]
 refine qa (cn) ?_
 simp(disch:=omega)only[go_sem]
 refine qa (zw 64 (by omega)) ?_
 simp(disch:=omega)only[go_sem]
 refine qB cc (by simp(disch:=omega)only[go_sem,exN]) ?_
 rintro r hs ⟨rfl,rfl,_⟩
 refine⟨by simp[qS],?_⟩
 simp(disch:=omega)only[go_sem,q]
 exact qq
end Go.Ab
namespace Go.Ab
open Go Go.Proofs
theorem jr(cl:Bool)(xs:List Int)(m:Nat)(hl:xs.length≤2^39)(hx:gd xs)(hv:vl xs=(m:Int)):Con Tryz.prog 259 cl [.sl xs.length (qg xs)] [] (aAV m):=by
 refine Con.of_aw Tryz.func259 rfl Tryz.ntmps259 (by simp) (by simp) (by simp) (W.sound ?_)
 show @W Tryz.prog 24 ⟨_⟩ ⟨fun x σ=>@za _ _ _ ⟨_⟩ _ ⟨_⟩ x σ⟩ _ _
 simp(disch:=omega)only[go_sem]
 have hcz:ZW xs=lim m:=by rw[je hx,hv,Int.toNat_natCast]
 refine qk (fun k:Nat=>[(0,.sl xs.length (qg xs)),(2,.pt 40000000 0),(3,.v (.int .i64 k))]) (fun _=>[(40000000,.own 0 [.v (.slice none 0 0)])]) (fun k=>k≤xs.length∧ZW (xs.take k)=ZW xs) id xs.length ⟨Nat.le_refl _,by simp⟩
  (Le.lst [] _ _ rfl (by simp(disch:=omega)only[go_sem]) (by simp(disch:=omega)only[go_sem])) ?_
 intro k ⟨hk,hc⟩
 have hkx:∀j,j+1=k→xs.take k=xs.take j++[xs.getD j 0]:=fun j hj=>by rw[←hj];exact jN (by omega)
 simp(disch:=omega)only[go_sem]
 refine qe (fun h1=>?_) (fun h1=>?_)
 ·obtain⟨j,rfl⟩:∃j,k=j+1:=⟨k-1,by omega⟩
  have e1:((j+1:Nat):Int)-1=(j:Nat):=by omega
  rw[hkx j rfl]at hc
  simp(disch:=omega)only[go_sem,h1,e1]
  refine⟨by omega,by omega,qe (fun h2=>?_) (fun h2=>?_)⟩
  ·simp(disch:=omega)only[go_sem,h2,e1]
   rw[h2,Qr]at hc
   exact qh j [] ⟨by omega,hc⟩ (by show j<j+1;omega) rfl (by simp(disch:=omega)only[go_sem];try omega) (by simp(disch:=omega)only[go_sem])
  ·rw[YE _ h2,←hkx j rfl,hcz]at hc
   have hlm:j+1=(lim m).length:=by rw[←hc,List.length_take];omega
   have e0:(((j+1:Nat):Int)-0).toNat=(lim m).length:=by omega
   rw[hlm]at hc
   simp(disch:=omega)only[go_sem,h2,e0,hc]
   refine⟨by omega,by omega,?_⟩
   refine qj [(0,240000000)] [.own 1 (qg (lim m))] [] [.ag [.rf 0 0 (lim m).length]] rfl (by simp(disch:=omega)only[go_sem]) (by simp(disch:=omega)only[go_sem]) (by simp) (by intro _;simp[q6,AV.pu,AV.pu.puL,Ob.pu,ze]) (.inr ⟨[],rfl,by rw[List.append_nil]⟩)
 ·have hlm:k=(lim m).length:=by
   have:k=0:=by omega
   rw[←hcz,←hc,this];rfl
  subst hlm
  have hc:xs.take (lim m).length=lim m:=by
   have:lim m=[]:=List.length_eq_zero_iff.1 (by omega)
   rw[this];simp
  have e0:(((lim m).length:Int)-0).toNat=(lim m).length:=by omega
  simp(disch:=omega)only[go_sem,h1,e0,hc]
  refine⟨by omega,by omega,?_⟩
  refine qj [(0,240000000)] [.own 1 (qg (lim m))] [] [.ag [.rf 0 0 (lim m).length]] rfl (by simp(disch:=omega)only[go_sem]) (by simp(disch:=omega)only[go_sem]) (by simp) (by intro _;simp[q6,AV.pu,AV.pu.puL,Ob.pu,ze]) (.inr ⟨[],rfl,by rw[List.append_nil]⟩)
theorem YL(cl:Bool)(n:Nat)(hn:n<2^63):Con Tryz.prog 203 cl [.v (.int .i64 n)] [] (aAV n):=by
 refine Con.of_aw Tryz.func203 rfl Tryz.ntmps203 (by simp) (by simp) (by simp) (W.sound ?_)
 show @W Tryz.prog 15 ⟨_⟩ ⟨fun x σ=>@za _ _ _ ⟨_⟩ _ ⟨_⟩ x σ⟩ _ _
 simp(disch:=omega)only[go_sem]
 refine qk (fun x:Nat×List Int=>[(0,.v (.int .i64 x.1)),(2,.pt 2 0),(3,.rf 1 0 x.2.length)]) (fun x=>[(1,.own 1 (qg x.2)),(2,.own 0 [.v (.slice none 0 0)])]) (fun x=>x.1<2^63∧x.2++lim x.1=lim n) (fun x=>x.1) (n,[]) ⟨hn,rfl⟩
  ((Le.ghost 3 1 1 (by simp(disch:=omega)only[go_sem]) (by simp(disch:=omega)only[go_sem])).trans (Le.lst [(2,40000000)] _ _ rfl (by simp(disch:=omega)only[go_sem]) (by simp(disch:=omega)only[go_sem]))) ?_
 rintro⟨k,l⟩ ⟨hk,hl⟩
 dsimp only at hk hl ⊢
 have hlen:l.length≤4:=by
  have h1:=congrArg List.length hl
  have h2:=jw (n:=n) (k:=4) |>.2 (by omega)
  rw[List.length_append]at h1;omega
 simp(disch:=omega)only[go_sem]
 refine qe (fun h1=>?_) (fun h1=>?_)
 ·simp(disch:=omega)only[go_sem,h1]
  have hk0:k≠0:=by omega
  refine⟨by omega,qh (k/65536,l++[(k:Int) % 65536]) [(1,120000000)] ⟨by show k/65536<2^63;omega,?_⟩ (by show k/65536<k;omega) rfl (by simp(disch:=omega)only[go_sem,List.length_append];try omega) (by simp(disch:=omega)only[go_sem])⟩
  rw[j7 hk0]at hl
  rw[←hl,List.append_assoc];rfl
 ·simp(disch:=omega)only[go_sem,h1]
  have hk0:k=0:=by omega
  subst hk0
  rw[qm,List.append_nil]at hl
  subst hl
  refine qj [(0,1)] [.own 1 (qg (lim n++[]))] [] [.ag [.rf 0 0 (lim n).length]] rfl (by simp(disch:=omega)only[go_sem]) (by simp(disch:=omega)only[go_sem]) (by simp) (by intro _;simp[q6,AV.pu,AV.pu.puL,Ob.pu,ze]) (.inr ⟨[],rfl,rfl⟩)
end Go.Ab
namespace Go.Ab
open Go Go.Proofs
set_option maxRecDepth 100000 in
theorem apP(cl:Bool)(a b:Nat)(la:(lim a).length≤2000000)(lb:(lim b).length≤2000000):Con Tryz.prog 206 cl [.ag [.sl (lim (a)).length (qg (lim (a)))],.ag [.sl (lim (b)).length (qg (lim (b)))]] [] (aAV (a+b)):=by
 refine Con.of_aw Tryz.func206 rfl Tryz.ntmps206 (by simp) (by simp) (by simp) (W.sound ?_)
 show @W Tryz.prog 61 ⟨_⟩ ⟨fun x σ=>@za _ _ _ ⟨_⟩ _ ⟨_⟩ x σ⟩ _ _
 simp(disch:=omega)only[go_sem]
 have hA:=qU a
 have hB:=qU b
 refine qk (fun x:Nat×List Int×Int=>[(2,.pt 3 0),(3,.pt 4 0),(4,.pt 2 0),(5,.rf 1 0 x.2.1.length),(6,.v (.int .i64 x.2.2)),(7,.v (.int .i64 x.1))])
  (fun x=>[(1,.own 1 (qg x.2.1)),(2,.own 0 [.v (.slice none 0 0)]),(3,.own 0 [.sl (lim (a)).length (qg (lim (a)))]),(4,.own 0 [.sl (lim (b)).length (qg (lim (b)))])])
  (fun x=>x.1≤max (lim a).length (lim b).length+1∧x.2.1.length=x.1∧gd x.2.1∧(0≤x.2.2∧x.2.2≤1)∧vl x.2.1+65536^x.1*x.2.2=vl ((lim a).take x.1)+vl ((lim b).take x.1)∧(max (lim a).length (lim b).length<x.1→x.2.2=0))
  (fun x=>2*(max (lim a).length (lim b).length-x.1)+x.2.2.toNat) (0,[],0) ⟨by simp,rfl,ZQ,by simp,by simp[vl],fun h=>rfl⟩
  ((Le.ghost 5 1 1 (by simp(disch:=omega)only[go_sem]) (by simp(disch:=omega)only[go_sem])).trans (Le.lst [(2,60000000),(3,40000000),(4,50000000)] _ _ rfl (by simp(disch:=omega)only[go_sem]) (by simp(disch:=omega)only[go_sem]))) ?_
 rintro⟨i,out,cy⟩ ⟨hi,hol,hog,hcy,hov,hcz⟩
 dsimp only at hi hol hog hcy hov hcz ⊢
 have hx:=qN hA i
 have hy:=qN hB i
 have hxz:¬(i:Int)<(lim a).length→(lim a).getD i 0=0:=fun h=>by rw[List.getD_eq_getElem?_getD,List.getElem?_eq_none (by omega)];rfl
 have hyz:¬(i:Int)<(lim b).length→(lim b).getD i 0=0:=fun h=>by rw[List.getD_eq_getElem?_getD,List.getElem?_eq_none (by omega)];rfl
 have hstep:∀q:Int,q=cy+(lim a).getD i 0+(lim b).getD i 0→vl (out++[q % 65536])+65536^(i+1)*(q/65536)=vl ((lim a).take (i+1))+vl ((lim b).take (i+1)):=by
  intro q hq
  rw[jt,qZ,qZ,hol,Int.pow_succ]
  have e3:q % 65536+65536*(q/65536)=q:=Int.emod_add_mul_ediv q 65536
  generalize (65536:Int)^i=Pi at*
  grind
 have key:∀q:Int,q=cy+(lim a).getD i 0+(lim b).getD i 0→(i:Int)<(lim a).length∨(i:Int)<(lim b).length∨0<cy→
   ((i+1≤max (lim a).length (lim b).length+1∧(out++[q % 65536]).length=i+1∧gd (out++[q % 65536])∧(0≤q/65536∧q/65536≤1)∧vl (out++[q % 65536])+65536^(i+1)*(q/65536)=vl ((lim a).take (i+1))+vl ((lim b).take (i+1))∧(max (lim a).length (lim b).length<i+1→q/65536=0))∧
   2*(max (lim a).length (lim b).length-(i+1))+(q/65536).toNat<2*(max (lim a).length (lim b).length-i)+cy.toNat):=by
  intro q hq hc
  have hle:i≤max (lim a).length (lim b).length:=by
   rcases Nat.lt_or_ge (max (lim a).length (lim b).length) i with h|h
   ·have:=hcz h;omega
   ·exact h
  have hbig:max (lim a).length (lim b).length<i+1→q/65536=0:=fun h=>by
   have:=hxz (by omega)
   have:=hyz (by omega)
   omega
  refine⟨⟨by omega,by simp[hol],qO.2 ⟨hog,zZ.2 (by omega)⟩,by omega,hstep q hq,hbig⟩,?_⟩
  by_cases hm:max (lim a).length (lim b).length<i+1
  ·have:=hbig hm;omega
  ·omega
 by_cases h1:(i:Int)<(lim a).length<;>by_cases h2:(i:Int)<(lim b).length
 ·simp(disch:=omega)only[go_sem,h1,h2]
  obtain⟨k1,k2⟩:=key _ rfl (.inl h1)
  refine⟨by omega,by omega,by omega,by omega,by omega,qh (i+1,out++[(cy+(lim a).getD i 0+(lim b).getD i 0) % 65536],(cy+(lim a).getD i 0+(lim b).getD i 0)/65536) [(1,580000000)] k1 k2 rfl (by simp(disch:=omega)only[go_sem,List.length_append];try omega) (by simp(disch:=omega)only[go_sem])⟩
 ·simp(disch:=omega)only[go_sem,h1,h2]
  have e0:cy+(lim a).getD i 0=cy+(lim a).getD i 0+(lim b).getD i 0:=by rw[hyz h2];omega
  obtain⟨k1,k2⟩:=key (cy+(lim a).getD i 0) e0 (.inl h1)
  refine⟨by omega,by omega,by omega,qh (i+1,out++[(cy+(lim a).getD i 0) % 65536],(cy+(lim a).getD i 0)/65536) [(1,580000000)] k1 k2 rfl (by simp(disch:=omega)only[go_sem,List.length_append];try omega) (by simp(disch:=omega)only[go_sem])⟩
 ·simp(disch:=omega)only[go_sem,h1,h2]
  have e0:cy+(lim b).getD i 0=cy+(lim a).getD i 0+(lim b).getD i 0:=by rw[hxz h1];omega
  obtain⟨k1,k2⟩:=key (cy+(lim b).getD i 0) e0 (.inr (.inl h2))
  refine⟨by omega,by omega,by omega,qh (i+1,out++[(cy+(lim b).getD i 0) % 65536],(cy+(lim b).getD i 0)/65536) [(1,580000000)] k1 k2 rfl (by simp(disch:=omega)only[go_sem,List.length_append];try omega) (by simp(disch:=omega)only[go_sem])⟩
 ·by_cases h3:0<cy
  ·simp(disch:=omega)only[go_sem,h1,h2,h3]
   have e0:cy=cy+(lim a).getD i 0+(lim b).getD i 0:=by rw[hxz h1,hyz h2];omega
   obtain⟨k1,k2⟩:=key cy e0 (.inr (.inr h3))
   refine⟨by omega,qh (i+1,out++[cy % 65536],cy/65536) [(1,580000000)] k1 k2 rfl (by simp(disch:=omega)only[go_sem,List.length_append];try omega) (by simp(disch:=omega)only[go_sem])⟩
  ·have hcy0:cy=0:=by omega
   have hov2:vl out=((a+b:Nat):Int):=by
    rw[List.take_of_length_le (by omega),List.take_of_length_le (by omega),qW,qW,hcy0]at hov
    simp at hov;omega
   simp(disch:=omega)only[go_sem,h1,h2,h3]
   refine qB (jr true out (a+b) (by omega) hog hov2) (by simp(disch:=omega)only[go_sem]) ?_
   rintro r hs (⟨h0,rfl,rfl⟩|⟨zs,rfl,rfl⟩)
   ·refine⟨⟨by simp,by simp(disch:=omega)only[go_sem]⟩,?_⟩
    simp(disch:=omega)only[go_sem]
    refine qj [] [] [] [.ag [.v (.slice none 0 0)]] rfl (by simp(disch:=omega)only[go_sem]) (by simp(disch:=omega)only[go_sem]) (by simp) (by intro _;simp[q6,AV.pu,AV.pu.puL,Ob.pu,ze]) (.inl ⟨h0,rfl,rfl⟩)
   ·refine⟨⟨by simp,by simp(disch:=omega)only[go_sem]⟩,?_⟩
    simp(disch:=omega)only[go_sem]
    refine qj [(0,620000000)] [.own 1 (qg (lim (a+b)++zs))] [] [.ag [.rf 0 0 (lim (a+b)).length]] rfl (by simp(disch:=omega)only[go_sem]) (by simp(disch:=omega)only[go_sem]) (by simp) (by intro _;simp[q6,AV.pu,AV.pu.puL,Ob.pu,ze]) (.inr ⟨zs,rfl,rfl⟩)
end Go.Ab
namespace Go.Ab
open Go Go.Proofs
set_option maxRecDepth 100000 in
theorem JU(cl:Bool)(A:List Int)(hA:gd A)(b:Nat)(lA:A.length≤1000000)(lB:(lim b).length≤1000000)(m:Nat)(hm:vl A*(b:Int)=(m:Int)):
  Con Tryz.prog 265 cl [.ag [.sl A.length (qg A)],.ag [.sl (lim (b)).length (qg (lim (b)))]] [] (aAV m):=by
 refine Con.of_aw Tryz.func265 rfl Tryz.ntmps265 (by simp) (by simp) (by simp) (W.sound ?_)
 show @W Tryz.prog 80 ⟨_⟩ ⟨fun x σ=>@za _ _ _ ⟨_⟩ _ ⟨_⟩ x σ⟩ _ _
 have hvb:=qW b
 have hB:=qU b
 generalize lim b=B at*
 simp(disch:=omega)only[go_sem]
 refine⟨by omega,?_⟩
 refine qk (fun x:Nat×List Int=>[(2,.pt 0 0),(3,.pt 1 0),(4,.pt 2 0),(5,.rf 3 0 (A.length+B.length)),(6,.v (.int .i64 x.1))])
  (fun x=>[(0,.own 0 [.sl A.length (qg A)]),(1,.own 0 [.sl B.length (qg B)]),(2,.own 0 [.v (.slice none 0 0)]),(3,.own 1 (qg x.2))])
  (fun x=>x.1≤A.length∧x.2.length=A.length+B.length∧gd x.2∧vl x.2=vl (A.take x.1)*vl B∧∀j,x.1+B.length≤j→x.2.getD j 0=0)
  (fun x=>A.length-x.1) (0,List.replicate (A.length+B.length) 0) ⟨by simp,by simp,zz _,by simp[zR,vl],fun j _=>by
   rw[List.getD_eq_getElem?_getD,List.getElem?_replicate];split<;>rfl⟩
  (Le.lst [(0,40000000),(1,50000000),(2,60000000),(3,190000000)] _ _ rfl (by simp(disch:=omega)only[go_sem];try omega) (by simp(disch:=omega)only[go_sem,show((A.length:Int)+(B.length:Int)).toNat=A.length+B.length by omega])) ?_
 rintro⟨i,out⟩ ⟨hi,hol,hog,hov,hoz⟩
 dsimp only at hi hol hog hov hoz ⊢
 simp(disch:=omega)only[go_sem]
 refine qe (fun h1=>?_) (fun h1=>?_)
 ·have hx:=qN hA i
  simp(disch:=omega)only[go_sem,h1]
  refine qk (fun x:Nat×List Int×Int=>[(2,.pt 0 0),(3,.pt 1 0),(4,.pt 2 0),(5,.rf 3 0 (A.length+B.length)),(6,.v (.int .i64 i)),(7,.v (.int .i64 x.2.2)),(8,.v (.int .i64 x.1))])
   (fun x=>[(0,.own 0 [.sl A.length (qg A)]),(1,.own 0 [.sl B.length (qg B)]),(2,.own 0 [.v (.slice none 0 0)]),(3,.own 1 (qg x.2.1))])
   (fun x=>x.1≤B.length∧x.2.1.length=A.length+B.length∧gd x.2.1∧(0≤x.2.2∧x.2.2<65536)∧vl x.2.1+65536^(i+x.1)*x.2.2=vl out+65536^i*(A.getD i 0*vl (B.take x.1))∧∀j,i+B.length≤j→x.2.1.getD j 0=0)
   (fun x=>B.length-x.1) (0,out,0) ⟨by simp,hol,hog,by simp,by simp[vl],hoz⟩
   (Le.lst [] _ _ rfl (by simp(disch:=omega)only[go_sem];try omega) (by simp(disch:=omega)only[go_sem])) ?_
  rintro⟨j,o2,cy⟩ ⟨hj,hol2,hog2,hcy,hov2,hoz2⟩
  dsimp only at hj hol2 hog2 hcy hov2 hoz2 ⊢
  simp(disch:=omega)only[go_sem]
  refine qe (fun h2=>?_) (fun h2=>?_)
  ·have hy:=qN hB j
   have ho:=qN hog2 (i+j)
   have hxy:=aos hx hy
   have e1:((i:Int)+(j:Int)).toNat=i+j:=by omega
   simp(disch:=omega)only[go_sem,h2]
   refine qo rfl [⟨0,[],[]⟩,⟨1,[],[]⟩,⟨2,[],[]⟩,⟨3,[],[]⟩,⟨4,[],[]⟩,⟨5,[],[]⟩,⟨6,[5],[]⟩,⟨7,[5],[]⟩,⟨8,[5,7],[]⟩,⟨9,[5],[]⟩,⟨10,[5],[]⟩,⟨11,[5,7,10],[]⟩,⟨12,[5,7,10],[]⟩,⟨13,[5,7,10,12],[]⟩,⟨14,[5,7,10],[]⟩,⟨15,[5,7,10],[]⟩,⟨16,[5],[]⟩,⟨17,[],[]⟩,⟨18,[5,7,10,12,15],[]⟩,⟨19,[],[]⟩,⟨20,[],[]⟩] (by kernel_rfl) ?_
   simp(disch:=omega)only[go_sem,e1]
   generalize hq:o2.getD (i+j) 0+A.getD i 0*B.getD j 0+cy=q
   refine⟨by omega,by omega,by omega,by omega,by omega,by omega,by omega,by omega,qh (j+1,o2.set (i+j) (q % 65536),q/65536) [] ⟨by show j+1≤_;omega,by simp[hol2],yM hog2 (by omega),by show 0≤q/65536∧q/65536<65536;omega,?_,fun k hk=>?_⟩
    (by show B.length-(j+1)<B.length-j;omega) rfl (by simp(disch:=omega)only[go_sem];try omega) (by simp(disch:=omega)only[go_sem])⟩
   ·show vl (o2.set (i+j) (q % 65536))+65536^(i+(j+1))*(q/65536)=vl out+65536^i*(A.getD i 0*vl (B.take (j+1)))
    rw[QP (by omega),zy (by omega),←Nat.add_assoc,Int.pow_succ]
    have e2:(65536:Int)^(i+j)=65536^i*65536^j:=Int.pow_add _ _ _
    have e3:q % 65536+65536*(q/65536)=q:=Int.emod_add_mul_ediv q 65536
    rw[e2]at hov2 ⊢
    generalize (65536:Int)^i=Pi at*
    generalize (65536:Int)^j=Pj at*
    grind
   ·show(o2.set (i+j) (q % 65536)).getD k 0=0
    rw[List.getD_eq_getElem?_getD,List.getElem?_set_ne (by omega),←List.getD_eq_getElem?_getD]
    exact hoz2 k hk
  ·simp(disch:=omega)only[go_sem,h2]
   have e1:((i:Int)+(B.length:Int)).toNat=i+B.length:=by omega
   have hjB:j=B.length:=by omega
   subst hjB
   rw[List.take_length]at hov2
   have hz:=hoz2 (i+B.length) (Nat.le_refl _)
   refine qo rfl [⟨0,[],[]⟩,⟨1,[],[]⟩,⟨2,[],[]⟩,⟨3,[],[]⟩,⟨4,[],[]⟩,⟨5,[],[]⟩,⟨6,[3],[]⟩,⟨7,[3],[]⟩,⟨8,[3],[]⟩,⟨9,[3],[]⟩,⟨10,[3],[]⟩,⟨11,[3],[]⟩,⟨12,[3],[]⟩,⟨13,[3],[]⟩,⟨14,[3,9,13],[]⟩,⟨15,[3],[]⟩,⟨16,[],[]⟩,⟨17,[],[]⟩] (by kernel_rfl) ?_
   simp(disch:=omega)only[go_sem,e1,hz]
   have e0:(0:Int)+cy=cy:=by omega
   refine⟨by omega,by omega,by omega,by omega,qh (i+1,o2.set (i+B.length) cy) [] ⟨by show i+1≤_;omega,by simp[hol2],yM hog2 hcy,?_,fun k hk=>?_⟩ (by show A.length-(i+1)<A.length-i;omega) rfl (by simp(disch:=omega)only[go_sem];try omega) (by simp(disch:=omega)only[go_sem,e0])⟩
   ·show vl (o2.set (i+B.length) cy)=vl (A.take (i+1))*vl B
    rw[QP (by omega),hz,zy (by omega)]
    generalize (65536:Int)^i=Pi at*
    grind
   ·show(o2.set (i+B.length) cy).getD k 0=0
    rw[List.getD_eq_getElem?_getD,List.getElem?_set_ne (by show i+B.length≠k;omega),←List.getD_eq_getElem?_getD]
    exact hoz2 k (by omega)
 ·simp(disch:=omega)only[go_sem,h1]
  have hiA:i=A.length:=by omega
  subst hiA
  rw[List.take_length,hvb,hm]at hov
  rw[←hol]
  refine qB (jr true (out) (m) (by omega) (hog) (hov)) (by simp(disch:=omega)only[go_sem]) ?_
  rintro r hs (⟨h0,rfl,rfl⟩|⟨zs,rfl,rfl⟩)
  ·refine⟨⟨by simp,by simp(disch:=omega)only[go_sem]⟩,?_⟩
   simp(disch:=omega)only[go_sem]
   refine qj [] [] [] [.ag [.v (.slice none 0 0)]] rfl (by simp(disch:=omega)only[go_sem]) (by simp(disch:=omega)only[go_sem]) (by simp) (by intro _;simp[q6,AV.pu,AV.pu.puL,Ob.pu,ze]) (.inl ⟨h0,rfl,rfl⟩)
  ·refine⟨⟨by simp,by simp(disch:=omega)only[go_sem]⟩,?_⟩
   simp(disch:=omega)only[go_sem]
   refine qj [(0,810000000)] [.own 1 (qg (lim (m)++zs))] [] [.ag [.rf 0 0 (lim (m)).length]] rfl (by simp(disch:=omega)only[go_sem]) (by simp(disch:=omega)only[go_sem]) (by simp) (by intro _;simp[q6,AV.pu,AV.pu.puL,Ob.pu,ze]) (.inr ⟨zs,rfl,rfl⟩)
theorem apO(cl:Bool)(a b:Nat)(la:(lim a).length≤1000000)(lb:(lim b).length≤1000000):Con Tryz.prog 265 cl [.ag [.sl (lim (a)).length (qg (lim (a)))],.ag [.sl (lim (b)).length (qg (lim (b)))]] [] (aAV (a*b)):=
 JU cl (lim a) (qU a) b la lb (a*b) (by rw[qW,Int.natCast_mul])
end Go.Ab
namespace Go.Ab
open Go Go.Proofs
def aOa(m:Nat)(r0:Int):AV→List Ob→List Ob→Prop:=fun r hs bs=>
 (m=0∧r=.tu [.ag [.v (.slice none 0 0)],.v (.int .i64 r0)]∧hs=[])∨∃zs,r=.tu [.ag [.rf 0 0 (lim m).length],.v (.int .i64 r0)]∧hs=[.own 1 (qg (lim m++zs))]
theorem Con.natF2{P:Program}{f:FuncId}{args:List AV}{m:Nat}{r0:Int}(h:Con P f false args [] (aOa m r0)):Con P f false args [] (isA (.tu [.ag [.sl (lim (m)).length (qg (lim (m)))],.v (.int .i64 r0)])):=
 Con.frzA <| h.mono fun r hs bs h=>by
  rcases h with⟨rfl,rfl,rfl⟩|⟨zs,rfl,rfl⟩
  ·show qP _ 6 _=_
   rw[qm];rfl
  ·show qP _ 6 _=_
   rw[J6,List.map_cons,List.map_cons,List.map_nil,ac0,List.map_cons,List.map_nil,j1 (k:=2) (l:=lim m) (zs:=zs) zv rfl]
   rfl
theorem K0(cl:Bool)(A:List Int)(d:Nat)(hA:gd A)(lA:A.length≤1000000)(hd:0<d)(hd2:d<65536)(m:Nat)(hm:vl A/(d:Int)=(m:Int)):
  Con Tryz.prog 279 cl [.ag [.sl A.length (qg A)],.v (.int .i64 d)] [] (aOa m (vl A % d)):=by
 refine Con.of_aw Tryz.func279 rfl Tryz.ntmps279 (by simp) (by simp) (by simp) (W.sound ?_)
 show @W Tryz.prog 42 ⟨_⟩ ⟨fun x σ=>@za _ _ _ ⟨_⟩ _ ⟨_⟩ x σ⟩ _ _
 simp(disch:=omega)only[go_sem]
 refine⟨by omega,?_⟩
 refine qk (fun x:Nat×List Int×Int=>[(1,.v (.int .i64 d)),(2,.pt 0 0),(4,.pt 1 0),(6,.rf 2 0 A.length),(7,.v (.int .i64 x.2.2)),(8,.v (.int .i64 ((x.1:Int)-1)))])
  (fun x=>[(0,.own 0 [.sl A.length (qg A)]),(1,.own 0 [.v (.slice none 0 0)]),(2,.own 1 (qg x.2.1))])
  (fun x=>x.1≤A.length∧x.2.1.length=A.length∧gd x.2.1∧x.2.2=vl (A.drop x.1) % d∧vl (x.2.1.drop x.1)=vl (A.drop x.1)/d)
  (fun x=>x.1) (A.length,List.replicate A.length 0,0) ⟨Nat.le_refl _,by simp,zz _,by simp[vl],by simp[vl]⟩
  (Le.lst [(0,40000000),(1,60000000),(2,150000000)] _ _ rfl (by simp(disch:=omega)only[go_sem,List.length_replicate];try omega) (by simp(disch:=omega)only[go_sem])) ?_
 rintro⟨k,out,rest⟩ ⟨hk,hol,hog,hr,hov⟩
 dsimp only at hk hol hog hr hov ⊢
 have hr0:0≤rest∧rest<d:=by rw[hr];exact⟨Int.emod_nonneg _ (by omega),Int.emod_lt_of_pos _ (by omega)⟩
 simp(disch:=omega)only[go_sem]
 refine qe (fun h1=>?_) (fun h1=>?_)
 ·obtain⟨i,rfl⟩:∃i,k=i+1:=⟨k-1,by omega⟩
  have ei:((i+1:Nat):Int)-1=(i:Nat):=by omega
  have hx:=qN hA i
  have hq6:0≤(rest*65536+A.getD i 0)/d∧(rest*65536+A.getD i 0)/d<65536:=by
   refine⟨Int.ediv_nonneg (by omega) (by omega),Int.ediv_lt_of_lt_mul (by omega) ?_⟩
   have:rest+1≤(d:Int):=by omega
   have:=Int.mul_le_mul_of_nonneg_left this (show(0:Int)≤65536 by omega)
   omega
  simp(disch:=omega)only[go_sem,h1,ei]
  generalize hq:rest*65536+A.getD i 0=q at*
  refine⟨by omega,by omega,by omega,by omega,by omega,by omega,qh (i,out.set i (q/d),q % d) [] ⟨by show i≤_;omega,by simp[hol],yM hog hq6,?_,?_⟩ (by show i<i+1;omega) rfl (by simp(disch:=omega)only[go_sem];try omega) (by simp(disch:=omega)only[go_sem])⟩
  ·show q % d=vl (A.drop i) % d
   rw[zF (l:=A) (i:=i) (by omega),←hq,hr]
   have h3:=Int.emod_add_mul_ediv (vl (A.drop (i+1))) d
   rw[show A.getD i 0+65536*vl (A.drop (i+1))=vl (A.drop (i+1)) % d*65536+A.getD i 0+d*(65536*(vl (A.drop (i+1))/d)) by grind,Int.add_mul_emod_self_left]
  ·show vl ((out.set i (q/d)).drop i)=vl (A.drop i)/d
   rw[drop_set (by omega),vl,hov,zF (l:=A) (i:=i) (by omega),←hq,hr]
   have h3:=Int.emod_add_mul_ediv (vl (A.drop (i+1))) d
   rw[show A.getD i 0+65536*vl (A.drop (i+1))=vl (A.drop (i+1)) % d*65536+A.getD i 0+d*(65536*(vl (A.drop (i+1))/d)) by grind,Int.add_mul_ediv_left _ _ (by omega)]
 ·simp(disch:=omega)only[go_sem,h1]
  have:k=0:=by omega
  subst this
  rw[List.drop_zero,List.drop_zero,hm]at hov
  rw[List.drop_zero]at hr
  rw[←hol]
  refine qB (jr true out m (by omega) hog hov) (by simp(disch:=omega)only[go_sem]) ?_
  rintro r hs (⟨h0,rfl,rfl⟩|⟨zs,rfl,rfl⟩)
  ·refine⟨⟨by simp,by simp(disch:=omega)only[go_sem]⟩,?_⟩
   simp(disch:=omega)only[go_sem]
   rw[hr]
   refine qj [] [] [] [.ag [.v (.slice none 0 0)],.v (.int .i64 (vl A % d))] rfl (by simp(disch:=omega)only[go_sem]) (by simp(disch:=omega)only[go_sem]) (by simp) (by intro _;simp[q6,AV.pu,AV.pu.puL,Ob.pu,ze]) (.inl ⟨h0,rfl,rfl⟩)
  ·refine⟨⟨by simp,by simp(disch:=omega)only[go_sem]⟩,?_⟩
   simp(disch:=omega)only[go_sem]
   rw[hr]
   refine qj [(0,420000000)] [.own 1 (qg (lim m++zs))] [] [.ag [.rf 0 0 (lim m).length],.v (.int .i64 (vl A % d))] rfl (by simp(disch:=omega)only[go_sem]) (by simp(disch:=omega)only[go_sem]) (by simp) (by intro _;simp[q6,AV.pu,AV.pu.puL,Ob.pu,ze]) (.inr ⟨zs,rfl,rfl⟩)
/-! ### Shifts-/
theorem anQ{k:Nat}(hk:k<16):IntKind.i64.wrap (1*2^(min ((k:Int)).toNat 64))=((2^k:Nat):Int):=by
 have e:min ((k:Int)).toNat 64=k:=by omega
 rw[e,Int.one_mul]
 have h:=yk k hk
 rw[Zn (by omega) (by omega),Int.natCast_pow];rfl
theorem apN(cl:Bool)(a k:Nat)(la:(lim a).length≤400000)(hk:k≤5000000):Con Tryz.prog 235 cl [.ag [.sl (lim (a)).length (qg (lim (a)))],.v (.int .i64 k)] [] (aAV (a*2^k)):=by
 refine Con.of_aw Tryz.func235 rfl Tryz.ntmps235 (by simp) (by simp) (by simp) (W.sound ?_)
 show @W Tryz.prog 22 ⟨_⟩ ⟨fun x σ=>@za _ _ _ ⟨_⟩ _ ⟨_⟩ x σ⟩ _ _
 have hz:((lim a).length:Int)=0→a=0:=fun h=>qH.1 (List.length_eq_zero_iff.1 (by omega))
 have hvA:=qW a
 have gA:=qU a
 generalize hLA:lim a=A at*
 simp(disch:=omega)only[go_sem]
 refine qe (fun h1=>?_) (fun h1=>?_)
 ·simp(disch:=omega)only[go_sem,h1]
  have h0:=hz h1
  subst h0
  refine qj [] [] [] [.ag [.v (.slice none 0 0)]] rfl (by simp(disch:=omega)only[go_sem]) (by simp(disch:=omega)only[go_sem]) (by simp) (by intro _;simp[q6,AV.pu,AV.pu.puL,Ob.pu,ze]) (.inl ⟨by simp,rfl,rfl⟩)
 ·simp(disch:=omega)only[go_sem,h1]
  refine qo rfl [⟨0,[],[]⟩,⟨1,[],[]⟩,⟨3,[],[]⟩,⟨4,[],[]⟩,⟨7,[4],[]⟩,⟨8,[4],[]⟩,⟨9,[4],[]⟩,⟨2,[4],[]⟩,⟨5,[],[]⟩,⟨6,[],[]⟩,⟨10,[],[]⟩,⟨11,[],[]⟩,⟨12,[],[]⟩] (by kernel_rfl) ?_
  have e16:((k:Int)/16).toNat=k/16:=by omega
  have e17:(k:Int) % 16=((k % 16:Nat):Int):=by omega
  have es:IntKind.i64.wrap (1*2^(min ((k:Int) % 16).toNat 64))=((2^(k % 16):Nat):Int):=by rw[e17];exact anQ (by omega)
  have hp15:2^(k % 16)≤2^15:=Nat.pow_le_pow_right (by omega) (by omega)
  have ecut:(List.replicate (k/16) (0:Int)).take (k/16)=List.replicate (k/16) 0:=List.take_of_length_le (by simp)
  simp(disch:=omega)only[go_sem,e16,ecut,es]
  refine⟨by omega,by omega,by simp;omega,?_⟩
  refine qa ((YL false (2^(k % 16)) (by omega)).natF) ?_
  simp(disch:=omega)only[go_sem]
  have hvA2:vl (List.replicate (k/16) 0++A)*((2^(k % 16):Nat):Int)=((a*2^k:Nat):Int):=by
   rw[y3,zR,hvA,List.length_replicate]
   have h2:a*2^k=65536^(k/16)*a*2^(k % 16):=by
    have:2^k=65536^(k/16)*2^(k % 16):=by rw[yl,←Nat.pow_add,Nat.div_add_mod]
    rw[this];grind
   rw[h2,Int.natCast_mul,Int.natCast_mul,Int.natCast_pow]
   simp
  have gA2:gd (List.replicate (k/16) 0++A):=qO.2 ⟨zz _,gA⟩
  have lA2:(List.replicate (k/16) (0:Int)++A).length=k/16+A.length:=by simp
  have et:(List.replicate (k/16) (0:Int)++A).take (k/16+A.length)=List.replicate (k/16) 0++A:=List.take_of_length_le (by simp)
  have l2s:(lim (2^(k % 16))).length≤1000000:=by
   have:=qy (m:=2^(k % 16)) (B:=16) (q9.2 (by omega));omega
  refine qB (JU true (List.replicate (k/16) 0++A) gA2 (2^(k % 16)) (by omega) l2s (a*2^k) hvA2) (by simp(disch:=omega)only[go_sem,lA2,et]) ?_
  rintro r hs (⟨h0,rfl,rfl⟩|⟨zs,rfl,rfl⟩)
  ·refine⟨⟨by simp,by simp(disch:=omega)only[go_sem]⟩,?_⟩
   simp(disch:=omega)only[go_sem]
   refine qj [] [] [] [.ag [.v (.slice none 0 0)]] rfl (by simp(disch:=omega)only[go_sem]) (by simp(disch:=omega)only[go_sem]) (by simp) (by intro _;simp[q6,AV.pu,AV.pu.puL,Ob.pu,ze]) (.inl ⟨h0,rfl,rfl⟩)
  ·refine⟨⟨by simp,by simp(disch:=omega)only[go_sem]⟩,?_⟩
   simp(disch:=omega)only[go_sem]
   refine qj [(0,230000000)] [.own 1 (qg (lim (a*2^k)++zs))] [] [.ag [.rf 0 0 (lim (a*2^k)).length]] rfl (by simp(disch:=omega)only[go_sem]) (by simp(disch:=omega)only[go_sem]) (by simp) (by intro _;simp[q6,AV.pu,AV.pu.puL,Ob.pu,ze]) (.inr ⟨zs,rfl,rfl⟩)
end Go.Ab
namespace Go.Ab
open Go Go.Proofs
theorem K1(a k:Nat)(la:(lim a).length≤1000000)(hk:k≤100000000):Con Tryz.prog 234 false [.ag [.sl (lim (a)).length (qg (lim (a)))],.v (.int .i64 k)] [] (isA (.ag [.sl (lim (a/2^k)).length (qg (lim (a/2^k)))])):=by
 refine Con.frzA ?_
 refine Con.of_aw Tryz.func234 rfl Tryz.ntmps234 (by simp) (by simp) (by simp) (W.sound ?_)
 show @W Tryz.prog 28 ⟨_⟩ ⟨fun x σ=>@za _ _ _ ⟨_⟩ _ ⟨_⟩ x σ⟩ _ _
 simp(disch:=omega)only[go_sem]
 refine qe (fun h1=>?_) (fun h1=>?_)
 ·simp(disch:=omega)only[go_sem,h1]
  have h0:a/2^k=0:=by
   refine Nat.div_eq_of_lt (Nat.lt_of_lt_of_le (ZG a) ?_)
   rw[yl];exact Nat.pow_le_pow_right (by omega) (by omega)
  rw[h0,qm]
  exact qn
 ·simp(disch:=omega)only[go_sem,h1]
  refine qo rfl [⟨0,[],[]⟩,⟨1,[],[]⟩,⟨2,[1],[]⟩,⟨3,[1],[]⟩,⟨4,[],[]⟩,⟨5,[],[]⟩,⟨6,[1,4],[]⟩,⟨7,[1,4],[]⟩,⟨8,[1,4],[]⟩,⟨13,[1,4],[]⟩,⟨9,[],[70000000]⟩,⟨10,[],[70000000]⟩,⟨11,[],[70000000]⟩,⟨12,[],[70000000]⟩,⟨14,[],[]⟩,⟨15,[],[]⟩] (by kernel_rfl) ?_
  have e16:((k:Int)/16).toNat=k/16:=by omega
  have e17:(k:Int) % 16=((k % 16:Nat):Int):=by omega
  have e18:(((lim a).length:Int)-(k:Int)/16).toNat=((lim a).drop (k/16)).length:=by simp;omega
  have es:IntKind.i64.wrap (1*2^(min ((k:Int) % 16).toNat 64))=((2^(k % 16):Nat):Int):=by rw[e17];exact anQ (by omega)
  have hp15:2^(k % 16)≤2^15:=Nat.pow_le_pow_right (by omega) (by omega)
  have hp0:0<2^(k % 16):=Nat.pow_pos (by omega)
  have hvD:=ad0 (qU a) (i:=k/16) (by omega)
  have gD:=jj (qU a) (k/16)
  have hlD:((lim a).drop (k/16)).length≤1000000:=by simp;omega
  have hm:vl ((lim a).drop (k/16))/((2^(k % 16):Nat):Int)=((a/2^k:Nat):Int):=by
   rw[←hvD,qW]
   have:a/2^k=a/65536^(k/16)/2^(k % 16):=by rw[Nat.div_div_eq_div_mul,yl,←Nat.pow_add,Nat.div_add_mod]
   rw[this,Int.natCast_ediv,Int.natCast_ediv,Int.natCast_pow 65536];rfl
  have et:((lim a).drop (k/16)).take ((lim a).drop (k/16)).length=(lim a).drop (k/16):=List.take_length
  simp(disch:=omega)only[go_sem,e16,e18,et,es]
  generalize (lim a).drop (k/16)=D at*
  refine⟨by omega,by omega,?_⟩
  refine qa ((K0 false D (2^(k % 16)) gD hlD hp0 (by omega) (a/2^k) hm).natF2) ?_
  simp(disch:=omega)only[go_sem]
  exact qn
theorem aiZ(a:Nat)(la:(lim a).length≤2^40):Con Tryz.prog 290 true [.ag [.sl (lim (a)).length (qg (lim (a)))]] [] (isA (.v (.int .i64 (bl a)))):=by
 refine Con.of_aw Tryz.func290 rfl Tryz.ntmps290 (by simp) (by simp) (by simp) (W.sound ?_)
 show @W Tryz.prog 29 ⟨_⟩ ⟨fun x σ=>@za _ _ _ ⟨_⟩ _ ⟨_⟩ x σ⟩ _ _
 simp(disch:=omega)only[go_sem]
 refine qe (fun h1=>?_) (fun h1=>?_)
 ·simp(disch:=omega)only[go_sem,h1]
  have:a=0:=qH.1 (List.length_eq_zero_iff.1 (by omega))
  subst this
  rw[y0]
  exact qq
 ·have hm:a≠0:=fun e=>by rw[e,qm]at h1;simp at h1
  have e2:(((lim a).length:Int)-1).toNat=(lim a).length-1:=by omega
  have ht:=ZI hm
  have hb:=aqo hm
  have eq:(lim a).getD ((lim a).length-1) 0=((a/65536^((lim a).length-1):Nat):Int):=by rw[zW,Nat.mod_eq_of_lt ht.2]
  generalize a/65536^((lim a).length-1)=q at*
  simp(disch:=omega)only[go_sem,h1,e2,eq]
  refine⟨by omega,by omega,?_⟩
  refine qk (fun x:Nat×Nat=>[(3,.v (.int .i64 x.1)),(4,.v (.int .i64 x.2))]) (fun _=>[]) (fun x=>x.1+bl x.2=bl a∧x.2<65536∧x.1≤2^45) (fun x=>x.2) (16*((lim a).length-1),q) ⟨hb.symm,ht.2,by show 16*((lim a).length-1)≤2^45;omega⟩ (Le.lst [] _ _ rfl (by simp(disch:=omega)only[go_sem];try omega) (by simp(disch:=omega)only[go_sem])) ?_
  rintro⟨n,x⟩ ⟨hn,hx,hn2⟩
  dsimp only at hn hx hn2 ⊢
  simp(disch:=omega)only[go_sem]
  refine qe (fun h2=>?_) (fun h2=>?_)
  ·simp(disch:=omega)only[go_sem,h2]
   have hd:=aEl (x:=x) (by omega)
   have hp:=q9.2 (show x<2^16 by omega)
   refine qh (n+1,x/2) [] ⟨by show n+1+bl (x/2)=bl a;omega,by show x/2<65536;omega,?_⟩ (by show x/2<x;omega) rfl (by simp(disch:=omega)only[go_sem];try omega) (by simp(disch:=omega)only[go_sem])
   show n+1≤2^45
   have:=JY (m:=a)
   omega
  ·simp(disch:=omega)only[go_sem,h2]
   have:x=0:=by omega
   subst this
   rw[y0]at hn
   refine qc (by simp(disch:=omega)only[go_sem]) (by simp(disch:=omega)only[go_sem]) ⟨?_,rfl,rfl⟩
   simp[q6];omega
theorem Qt(m:Nat)(i:Int)(hl:(lim m).length≤2^40)(hi:0≤i)(hi2:i<2^62):Con Tryz.prog 138 true [.ag [.sl (lim (m)).length (qg (lim (m)))],.v (.int .i64 i)] [] (isA (.v (.int .i64 ((m/2^i.toNat % 2:Nat):Int)))):=by
 refine Con.of_w (rs:=[.tmp 4]) Tryz.func138 rfl Tryz.ntmps138 rfl ?_
 obtain⟨k,rfl⟩:=Int.eq_ofNat_of_zero_le hi
 rw[Int.toNat_natCast]
 have h0:¬((k:Int)<0):=by omega
 have e16:((k:Int)/16).toNat=k/16:=by omega
 have em:min ((k:Int) % 16).toNat 64=k % 16:=by omega
 have hb:=aqq m k
 simp(disch:=omega)only[go_sem,h0]
 refine qe (fun h1=>?_) (fun h1=>?_)
 ·simp(disch:=omega)only[go_sem,h1]
  have:m/2^k % 2=0:=by
   rw[←hb]
   have h2:=zW m (k/16)
   rw[List.getD_eq_getElem?_getD,List.getElem?_eq_none (by omega)]at h2
   have h3:m/65536^(k/16) % 65536=0:=by simp only[Option.getD_none]at h2;omega
   rw[h3];simp
  rw[this]
  exact qq
 ·have hx:=qN (qU m) (k/16)
  have hp:(0:Int)<2^(k % 16):=Int.pow_pos (by omega)
  have efd:∀x:Int,x.fdiv (2^(k % 16))=x/2^(k % 16):=fun x=>Int.fdiv_eq_ediv_of_nonneg _ (Int.le_of_lt hp)
  have hq:0≤(lim m).getD (k/16) 0/2^(k % 16)∧(lim m).getD (k/16) 0/2^(k % 16)<65536:=by
   refine⟨Int.ediv_nonneg hx.1 (Int.le_of_lt hp),Int.lt_of_le_of_lt (Int.ediv_le_self _ hx.1) hx.2⟩
  have hr:(lim m).getD (k/16) 0/2^(k % 16) % 2=((m/2^k % 2:Nat):Int):=by
   rw[←hb,zW]
   generalize m/65536^(k/16) % 65536=x
   rw[Int.natCast_emod,Int.natCast_ediv,Int.natCast_pow];rfl
  simp(disch:=omega)only[go_sem,h1,e16,em,efd,hr]
  refine⟨by omega,by omega,by omega,?_⟩
  exact qq
theorem aqX{m i:Nat}(hz:∀j,j<i→m/2^j % 2=0)(h1:m/2^i % 2=1):tz m=i:=by
 have key:∀k,k≤i→2^k*(m/2^k)=m:=by
  intro k
  induction k with
  |zero=>intro _;simp
  |succ k ih=>
   intro hk
   have h2:=ih (by omega)
   have h3:=hz k (by omega)
   have h4:m/2^(k+1)=m/2^k/2:=by rw[Nat.pow_succ,Nat.div_div_eq_div_mul]
   rw[h4,Nat.pow_succ,Nat.mul_assoc,show 2*(m/2^k/2)=m/2^k by omega];exact h2
 refine yN (a:=m/2^i/2) ?_
 have:=key i (Nat.le_refl _)
 rw[show 2*(m/2^i/2)+1=m/2^i by omega];exact this.symm
theorem Z2(m:Nat)(hl:(lim m).length≤2^40):Con Tryz.prog 233 true [.ag [.sl (lim (m)).length (qg (lim (m)))]] [] (isA (.v (.int .i64 (tz m)))):=by
 refine Con.of_w (rs:=[.tmp 2]) Tryz.func233 rfl Tryz.ntmps233 rfl ?_
 simp(disch:=omega)only[go_sem]
 refine qk (fun i:Nat=>[(1,.pt 0 0),(3,.v (.int .i64 i))]) (fun _=>[(0,.own 0 [.sl (lim (m)).length (qg (lim (m)))])]) (fun i=>i≤16*(lim m).length∧∀j,j<i→m/2^j % 2=0) (fun i=>16*(lim m).length-i) 0 ⟨by omega,fun j hj=>by omega⟩ (Le.lst [(0,30000000)] _ _ rfl (by simp(disch:=omega)only[go_sem];try omega) (by simp(disch:=omega)only[go_sem])) ?_
 rintro i ⟨hi,hz⟩
 simp(disch:=omega)only[go_sem]
 refine qe (fun h1=>?_) (fun h1=>?_)
 ·simp(disch:=omega)only[go_sem,h1]
  refine qb (Qt m i hl (by omega) (by omega)) ?_
  simp(disch:=omega)only[go_sem]
  refine qe (fun h2=>?_) (fun h2=>?_)
  ·simp(disch:=omega)only[go_sem,h2]
   have:=aqX hz (by omega)
   rw[this]
   exact qq
  ·simp(disch:=omega)only[go_sem,h2]
   refine qh (i+1) [] ⟨by omega,fun j hj=>?_⟩ (by show 16*(lim m).length-(i+1)<16*(lim m).length-i;omega) rfl (by simp(disch:=omega)only[go_sem];try omega) (by simp(disch:=omega)only[go_sem])
   rcases(by omega:j<i∨j=i)with h|h
   ·exact hz j h
   ·subst h;omega
 ·simp(disch:=omega)only[go_sem,h1]
  have hm:m=0:=by
   have h3:=JY (m:=m)
   rcases Nat.eq_zero_or_pos m with h|h
   ·exact h
   ·have h4:=j0 (n:=m) (by omega)
    have h5:=(Qd (n:=m) (by omega)).1
    have:=hz (tz m) (by omega)
    omega
  subst hm
  rw[ajB]
  exact qq
theorem zC(m:Nat)(hm:m<2^63):Con Tryz.prog 262 true [.ag [.sl (lim (m)).length (qg (lim (m)))]] [] (isA (.v (.int .i64 m))):=by
 refine Con.of_aw Tryz.func262 rfl Tryz.ntmps262 (by simp) (by simp) (by simp) (W.sound ?_)
 show @W Tryz.prog 22 ⟨_⟩ ⟨fun x σ=>@za _ _ _ ⟨_⟩ _ ⟨_⟩ x σ⟩ _ _
 simp(disch:=omega)only[go_sem]
 have hl:(lim m).length≤4:=jw.2 (by omega)
 have hb:∀i,i≤(lim m).length→0≤vl ((lim m).drop i)∧vl ((lim m).drop i)<2^63:=fun i hi=>by
  have h1:=qM (jj (qU m) i)
  have h2:=qY (lim m) i hi
  have h3:=qM (zK (qU m) i)
  have hp:(0:Int)<65536^i:=Int.pow_pos (by omega)
  rw[qW]at h2
  have h4:=Int.mul_le_mul_of_nonneg_right (show(1:Int)≤65536^i by omega) h1
  omega
 refine qk (fun k:Nat=>[(1,.pt 0 0),(3,.v (.int .i64 (vl ((lim m).drop k)))),(4,.v (.int .i64 ((k:Int)-1)))]) (fun _=>[(0,.own 0 [.sl (lim (m)).length (qg (lim (m)))])]) (fun k=>k≤(lim m).length) (fun k=>k) (lim m).length (Nat.le_refl _) (Le.lst [(0,30000000)] _ _ rfl (by simp(disch:=omega)only[go_sem,List.drop_length,vl];try omega) (by simp(disch:=omega)only[go_sem])) ?_
 intro k hk
 have hbk:=hb k hk
 simp(disch:=omega)only[go_sem]
 refine qe (fun h1=>?_) (fun h1=>?_)
 ·obtain⟨i,rfl⟩:∃i,k=i+1:=⟨k-1,by omega⟩
  have ei:((i+1:Nat):Int)-1=(i:Nat):=by omega
  have hx:=qN (qU m) i
  have hbi:=hb i (by omega)
  have hd:=zF (l:=lim m) (i:=i) (by omega)
  have e2:vl ((lim m).drop (i+1))*65536+(lim m).getD i 0=vl ((lim m).drop i):=by omega
  simp(disch:=omega)only[go_sem,h1,ei,e2]
  refine⟨by omega,by omega,qh i [] (by show i≤_;omega) (by show i<i+1;omega) rfl (by simp(disch:=omega)only[go_sem];try omega) (by simp(disch:=omega)only[go_sem])⟩
 ·have:k=0:=by omega
  subst this
  have e2:vl ((lim m).drop 0)=(m:Int):=by rw[List.drop_zero,qW]
  simp(disch:=omega)only[go_sem,h1,e2]
  exact qc (by simp(disch:=omega)only[go_sem]) (by simp(disch:=omega)only[go_sem]) ⟨by simp[q6,qW],rfl,rfl⟩
end Go.Ab
namespace Go.Ab
open Go Go.Proofs
theorem aOe(m:Nat):decide ((0:Int)<((lim m).length:Int))=decide (m≠0):=by
 rw[decide_eq_decide]
 exact⟨fun h e=>by rw[e,qm]at h;simp at h,fun h=>by have:=Qg h;omega⟩
theorem Z3(m:Nat)(hl:(lim m).length≤2^39):Con Tryz.prog 259 false [.sl (lim (m)).length (qg (lim (m)))] [] (isA (.ag [.sl (lim (m)).length (qg (lim (m)))])):=(jr false (lim m) m hl (qU m) (qW m)).natF
theorem yu(n:Nat)(hn:n<2^63):Con Tryz.prog 203 false [.v (.int .i64 n)] [] (isA (.ag [.sl (lim (n)).length (qg (lim (n)))])):=(YL false n hn).natF
theorem QN(a b:Nat)(la:(lim a).length≤2000000)(lb:(lim b).length≤2000000):Con Tryz.prog 206 false [.ag [.sl (lim (a)).length (qg (lim (a)))],.ag [.sl (lim (b)).length (qg (lim (b)))]] [] (isA (.ag [.sl (lim (a+b)).length (qg (lim (a+b)))])):=(apP false a b la lb).natF
theorem aiY(a b:Nat)(la:(lim a).length≤1000000)(lb:(lim b).length≤1000000):Con Tryz.prog 265 false [.ag [.sl (lim (a)).length (qg (lim (a)))],.ag [.sl (lim (b)).length (qg (lim (b)))]] [] (isA (.ag [.sl (lim (a*b)).length (qg (lim (a*b)))])):=(apO false a b la lb).natF
theorem zd(a k:Nat)(la:(lim a).length≤400000)(hk:k≤5000000):Con Tryz.prog 235 false [.ag [.sl (lim (a)).length (qg (lim (a)))],.v (.int .i64 k)] [] (isA (.ag [.sl (lim (a*2^k)).length (qg (lim (a*2^k)))])):=(apN false a k la hk).natF
theorem zb(s:Bool)(m:Nat)(hl:(lim m).length≤2^39):Con Tryz.prog 202 false [.v (.bool s),.ag [.sl (lim (m)).length (qg (lim (m)))]] [] (isA (.ag [.v (.bool (s&&decide (m≠0))),.sl (lim (m)).length (qg (lim (m)))])):=by
 refine Con.frzA ?_
 refine Con.of_w (rs:=[.cell 4 27]) Tryz.func202 rfl Tryz.ntmps202 rfl ?_
 simp(disch:=omega)only[go_sem]
 refine qo rfl [⟨0,[],[]⟩,⟨1,[],[]⟩,⟨2,[],[]⟩,⟨3,[],[]⟩,⟨4,[],[]⟩,⟨5,[],[]⟩,⟨6,[],[]⟩,⟨7,[3],[]⟩,⟨8,[3],[]⟩,⟨9,[3],[]⟩,⟨10,[],[]⟩,⟨11,[],[]⟩] (by kernel_rfl) ?_
 simp(disch:=omega)only[go_sem]
 refine zY (fun h1=>?_) (fun h1=>?_)
 ·simp(disch:=omega)only[go_sem,h1,aOe]
  refine qa (Z3 m hl) ?_
  simp(disch:=omega)only[go_sem]
  exact qn (hp:=by simp(disch:=omega)only[go_sem,h1,Bool.true_and])
 ·simp(disch:=omega)only[go_sem,h1]
  refine qa (Z3 m hl) ?_
  simp(disch:=omega)only[go_sem]
  exact qn (hp:=by simp(disch:=omega)only[go_sem,h1,Bool.false_and])
theorem Zk(n:Int)(h: -9223372036854775808≤n∧n<9223372036854775808):Con Tryz.prog 129 false [.v (.int .i64 n)] [] (isA (.ag [.v (.bool (decide (n<0))),.sl (lim (n.natAbs)).length (qg (lim (n.natAbs)))])):=by
 refine Con.frzA ?_
 refine Con.of_aw Tryz.func129 rfl Tryz.ntmps129 (by simp) (by simp) (by simp) (W.sound ?_)
 show @W Tryz.prog 15 ⟨_⟩ ⟨fun x σ=>@za _ _ _ ⟨_⟩ _ ⟨_⟩ x σ⟩ _ _
 simp(disch:=omega)only[go_sem]
 refine qe (fun h1=>?_) (fun h1=>?_)
 ·simp(disch:=omega)only[go_sem,h1]
  have e1:0-(n+1)=(((0-(n+1)).toNat:Nat):Int):=by omega
  refine qa (yu (0-(n+1)).toNat (by omega)) ?_ (by simp(disch:=omega)only[go_sem,←e1])
  simp(disch:=omega)only[go_sem]
  refine qa (yu 1 (by omega)) ?_
  simp(disch:=omega)only[go_sem]
  have l1:=qy (m:=(0-(n+1)).toNat) (B:=64) (q9.2 (by omega))
  have l2:=qy (m:=1) (B:=64) (by decide)
  refine qa (QN (0-(n+1)).toNat 1 (by omega) (by omega)) ?_
  simp(disch:=omega)only[go_sem]
  have e2:(0-(n+1)).toNat+1=n.natAbs:=by omega
  have l3:=qy (m:=(0-(n+1)).toNat+1) (B:=64) (q9.2 (by omega))
  refine qa (zb true ((0-(n+1)).toNat+1) (by omega)) ?_
  simp(disch:=omega)only[go_sem]
  refine qE (by simp(disch:=omega)only[go_sem]) ?_
  show qP _ 6 _=_
  have e3:decide (n.natAbs≠0)=true:=by simp;omega
  rw[e2]
  simp(disch:=omega)only[go_sem,e3,h1,Bool.true_and]
 ·simp(disch:=omega)only[go_sem,h1]
  have e1:n=((n.natAbs:Nat):Int):=by omega
  refine qa (yu n.natAbs (by omega)) ?_ (by simp(disch:=omega)only[go_sem,←e1])
  simp(disch:=omega)only[go_sem]
  have l3:=qy (m:=n.natAbs) (B:=64) (q9.2 (by omega))
  refine qa (zb false n.natAbs (by omega)) ?_
  simp(disch:=omega)only[go_sem]
  exact qn (hp:=by simp(disch:=omega)only[go_sem,h1,Bool.false_and])
theorem apJ(s1:Bool)(m1:Nat)(s2:Bool)(m2:Nat)(h1:bl m1≤4000000)(h2:bl m2≤4000000):Con Tryz.prog 213 false [.ag [.v (.bool (s1)),.sl (lim (m1)).length (qg (lim (m1)))],.ag [.v (.bool (s2)),.sl (lim (m2)).length (qg (lim (m2)))]] [] (isA (.ag [.v (.bool ((s1 != s2)&&decide (m1*m2≠0))),.sl (lim (m1*m2)).length (qg (lim (m1*m2)))])):=by
 refine Con.frzA ?_
 refine Con.of_w (rs:=[.cell 4 27]) Tryz.func213 rfl Tryz.ntmps213 rfl ?_
 simp(disch:=omega)only[go_sem]
 have l1:=qy h1
 have l2:=qy h2
 refine qo rfl [⟨0,[],[]⟩,⟨1,[],[]⟩,⟨2,[1],[]⟩,⟨3,[1],[]⟩,⟨4,[],[]⟩,⟨5,[1,3],[]⟩,⟨6,[1,3],[]⟩,⟨7,[1,3,6],[]⟩,⟨8,[1,3,6],[]⟩,⟨9,[1,3],[]⟩,⟨10,[],[]⟩,⟨11,[],[]⟩] (by kernel_rfl) ?_
 simp(disch:=omega)only[go_sem]
 refine qa (aiY m1 m2 (by omega) (by omega)) ?_
 simp(disch:=omega)only[go_sem]
 have l3:=qy (Nat.le_trans (yE m1 m2) (Nat.add_le_add h1 h2))
 refine qa (zb (s1 != s2) (m1*m2) (by omega)) ?_
 simp(disch:=omega)only[go_sem]
 exact qn
theorem zS(s:Bool)(m:Nat)(e:Int)(hm:bl m≤8000000)(he: -2^40≤e∧e≤2^40):Con Tryz.prog 156 false [.ag [.v (.bool (s)),.sl (lim (m)).length (qg (lim (m)))],.v (.int .i64 e)] [] (isA (.ag [.v (.bool (oS s m)),.sl (lim (oM m)).length (qg (lim (oM m))),.v (.int .i64 (oE m e))])):=by
 refine Con.frzA ?_
 refine Con.of_aw Tryz.func156 rfl Tryz.ntmps156 (by simp) (by simp) (by simp) (W.sound ?_)
 show @W Tryz.prog 26 ⟨_⟩ ⟨fun x σ=>@za _ _ _ ⟨_⟩ _ ⟨_⟩ x σ⟩ _ _
 simp(disch:=omega)only[go_sem]
 have hl:=qy hm
 refine qe (fun h1=>?_) (fun h1=>?_)
 ·simp(disch:=omega)only[go_sem,h1]
  have h0:m=0:=qH.1 (List.length_eq_zero_iff.1 (by omega))
  subst h0
  refine qE (by simp(disch:=omega)only[go_sem]) ?_
  show qP _ 6 _=_
  simp only[oS,j6,oE,qm,if_true]
  simp(disch:=omega)only[go_sem]
 ·have h0:m≠0:=fun e=>h1 (by rw[e,qm];rfl)
  have ht:=j0 h0
  simp(disch:=omega)only[go_sem,h1]
  refine qb (Z2 m (by omega)) ?_
  simp(disch:=omega)only[go_sem]
  refine qo rfl [⟨0,[],[]⟩,⟨1,[],[]⟩,⟨2,[1],[]⟩,⟨3,[1],[]⟩,⟨4,[1,3],[]⟩,⟨7,[1,3],[]⟩,⟨8,[1,3],[]⟩,⟨9,[1,3],[]⟩,⟨5,[1],[]⟩,⟨6,[],[]⟩,⟨10,[],[]⟩,⟨11,[],[]⟩] (by kernel_rfl) ?_
  simp(disch:=omega)only[go_sem]
  refine qa (K1 m (tz m) (by omega) (by omega)) ?_
  simp(disch:=omega)only[go_sem]
  have l3:=qy (Nat.le_trans (Qw m (2^tz m)) hm)
  refine qa (zb s (m/2^tz m) (by omega)) ?_
  simp(disch:=omega)only[go_sem]
  refine qE (by simp(disch:=omega)only[go_sem]) ?_
  show qP _ 6 _=_
  have h3:decide (m/2^tz m≠0)=true:=by
   have:=(Qd h0).1
   simp only[decide_eq_true_eq];omega
  simp only[oS,oM,oE,if_neg h0]
  simp(disch:=omega)only[go_sem,h3,Bool.and_true]
theorem apF(s1:Bool)(m1:Nat)(e1:Int)(s2:Bool)(m2:Nat)(e2:Int)(h1:bl m1≤4000000)(h2:bl m2≤4000000)(he1: -2^39≤e1∧e1≤2^39)(he2: -2^39≤e2∧e2≤2^39):
  Con Tryz.prog 140 false [.ag [.v (.bool (s1)),.sl (lim (m1)).length (qg (lim (m1))),.v (.int .i64 (e1))],.ag [.v (.bool (s2)),.sl (lim (m2)).length (qg (lim (m2))),.v (.int .i64 (e2))]] [] (isA (.ag [.v (.bool (oS ((s1 != s2)&&decide (m1*m2≠0)) (m1*m2))),.sl (lim (oM (m1*m2))).length (qg (lim (oM (m1*m2)))),.v (.int .i64 (oE (m1*m2) (e1+e2)))])):=by
 refine Con.frzA ?_
 refine Con.of_w (rs:=[.cell 4 29]) Tryz.func140 rfl Tryz.ntmps140 rfl ?_
 simp(disch:=omega)only[go_sem]
 refine qo rfl [⟨0,[],[]⟩,⟨1,[],[]⟩,⟨2,[1],[]⟩,⟨3,[1],[]⟩,⟨5,[1,3],[]⟩,⟨6,[1,3],[]⟩,⟨7,[1,3,6],[]⟩,⟨8,[1,3,6],[]⟩,⟨9,[1,3],[]⟩,⟨4,[6,8],[]⟩,⟨10,[],[]⟩,⟨11,[],[]⟩] (by kernel_rfl) ?_
 simp(disch:=omega)only[go_sem]
 refine qa (apJ s1 m1 s2 m2 h1 h2) ?_
 simp(disch:=omega)only[go_sem]
 have h3:=Nat.le_trans (yE m1 m2) (Nat.add_le_add h1 h2)
 refine qa (zS ((s1 != s2)&&decide (m1*m2≠0)) (m1*m2) (e1+e2) (by omega) (by omega)) ?_
 simp(disch:=omega)only[go_sem]
 exact qn
theorem zj(s:Bool)(m:Nat)(e:Int)(hm:(lim m).length≤2^40)(he: -2^40≤e∧e≤2^40):Con Tryz.prog 260 true [.ag [.v (.bool (s)),.sl (lim (m)).length (qg (lim (m))),.v (.int .i64 (e))]] [] (isA (.v (.int .i64 (if m=0 then 0 else e+(bl m:Int))))):=by
 refine Con.of_w (rs:=[.tmp 2]) Tryz.func260 rfl Tryz.ntmps260 rfl ?_
 simp(disch:=omega)only[go_sem]
 refine qe (fun h1=>?_) (fun h1=>?_)
 ·simp(disch:=omega)only[go_sem,h1]
  have h0:m=0:=qH.1 (List.length_eq_zero_iff.1 (by omega))
  rw[if_pos h0]
  exact qq
 ·have h0:m≠0:=fun e=>h1 (by rw[e,qm];rfl)
  have:=JY (m:=m)
  simp(disch:=omega)only[go_sem,h1]
  refine qo rfl [⟨0,[],[]⟩,⟨1,[],[]⟩,⟨2,[1],[]⟩,⟨3,[1],[]⟩,⟨4,[1],[]⟩,⟨5,[1],[]⟩,⟨6,[],[]⟩,⟨7,[],[]⟩] (by kernel_rfl) ?_
  simp(disch:=omega)only[go_sem]
  refine qb (aiZ m hm) ?_
  simp(disch:=omega)only[go_sem]
  rw[if_neg h0]
  exact qq
end Go.Ab
namespace Go.Ab
open Go Go.Proofs
theorem Z4(a b:Nat)(la:(lim a).length≤2^40)(lb:(lim b).length≤2^40):
  Con Tryz.prog 236 true [.ag [.sl (lim (a)).length (qg (lim (a)))],.ag [.sl (lim (b)).length (qg (lim (b)))]] [] (isA (.v (.int .i64 (zE a b)))):=by
 refine Con.of_w (rs:=[.tmp 4]) Tryz.func236 rfl Tryz.ntmps236 rfl ?_
 simp(disch:=omega)only[go_sem]
 refine q7 (fun h1=>?_) (fun h1=>?_)
 ·simp(disch:=omega)only[go_sem,h1]
  refine qe (fun h2=>?_) (fun h2=>?_)
  ·simp(disch:=omega)only[go_sem,h2]
   have:=Qh (a:=a) (b:=b) (by omega)
   rw[show zE (a:Int) (b:Int)= -1 by unfold zE;rw[if_pos (by omega)]]
   exact qq
  ·simp(disch:=omega)only[go_sem,h2]
   have:=Qh (a:=b) (b:=a) (by omega)
   rw[show zE (a:Int) (b:Int)=1 by unfold zE;rw[if_neg (by omega),if_pos (by omega)]]
   exact qq
 ·simp(disch:=omega)only[go_sem,h1]
  have hl:(lim a).length=(lim b).length:=by omega
  refine qk (fun k:Nat=>[(2,.pt 40000000 0),(3,.pt 50000000 0),(5,.v (.int .i64 ((k:Int)-1)))])
   (fun _=>[(40000000,.own 0 [.sl (lim (a)).length (qg (lim (a)))]),(50000000,.own 0 [.sl (lim (b)).length (qg (lim (b)))])]) (fun k=>k≤(lim a).length∧(lim a).drop k=(lim b).drop k) (fun k=>k) (lim a).length ⟨Nat.le_refl _,by rw[List.drop_length,hl,List.drop_length]⟩ (Le.lst [] _ _ rfl (by simp(disch:=omega)only[go_sem];try omega) (by simp(disch:=omega)only[go_sem])) ?_
  rintro k ⟨hk,hd⟩
  simp(disch:=omega)only[go_sem]
  refine qe (fun h2=>?_) (fun h2=>?_)
  ·obtain⟨i,rfl⟩:∃i,k=i+1:=⟨k-1,by omega⟩
   have ei:((i+1:Nat):Int)-1=(i:Nat):=by omega
   have hva:=qW a
   have hvb:=qW b
   simp(disch:=omega)only[go_sem,h2,ei]
   refine qo rfl [⟨0,[],[]⟩,⟨1,[],[]⟩,⟨2,[1],[]⟩,⟨3,[],[]⟩,⟨4,[],[]⟩,⟨5,[1,4],[]⟩,⟨6,[1,4],[]⟩,⟨7,[1,4,6],[]⟩,⟨8,[1,4],[]⟩,⟨9,[1,4],[]⟩,⟨10,[],[]⟩] (by kernel_rfl) ?_
   simp(disch:=omega)only[go_sem,ei]
   refine⟨by omega,by omega,by omega,by omega,?_⟩
   refine qe (fun h3=>?_) (fun h3=>?_)
   ·simp(disch:=omega)only[go_sem,h3]
    have:=Q9 (qU a) (qU b) (by omega) hl hd h3
    rw[show zE (a:Int) (b:Int)= -1 by unfold zE;rw[if_pos (by omega)]]
    exact qq
   ·simp(disch:=omega)only[go_sem,h3]
    refine qo rfl [⟨0,[],[]⟩,⟨1,[],[]⟩,⟨2,[1],[]⟩,⟨3,[],[]⟩,⟨4,[],[]⟩,⟨5,[1,4],[]⟩,⟨6,[1,4],[]⟩,⟨7,[1,4,6],[]⟩,⟨8,[1,4],[]⟩,⟨9,[1,4],[]⟩,⟨10,[],[]⟩] (by kernel_rfl) ?_
    simp(disch:=omega)only[go_sem,ei]
    refine⟨by omega,by omega,by omega,by omega,?_⟩
    refine qe (fun h4=>?_) (fun h4=>?_)
    ·simp(disch:=omega)only[go_sem,h4]
     have:=Q9 (qU b) (qU a) (by omega) hl.symm hd.symm h4
     rw[show zE (a:Int) (b:Int)=1 by unfold zE;rw[if_neg (by omega),if_pos (by omega)]]
     exact qq
    ·simp(disch:=omega)only[go_sem,h4]
     refine qh i [] ⟨by omega,?_⟩ (by show i<i+1;omega) rfl (by simp(disch:=omega)only[go_sem];try omega) (by simp(disch:=omega)only[go_sem])
     have h5:(lim a).getD i 0=(lim b).getD i 0:=by omega
     rw[yr (l:=lim a) (by omega),yr (l:=lim b) (by omega),h5,hd]
  ·simp(disch:=omega)only[go_sem,h2]
   have:k=0:=by omega
   subst this
   rw[List.drop_zero,List.drop_zero]at hd
   have:=jH hd
   subst this
   rw[show zE (a:Int) (a:Int)=0 by simp[zE]]
   exact qq
theorem apM(cl:Bool)(a b:Nat)(hle:b≤a)(la:(lim a).length≤1000000):Con Tryz.prog 258 cl [.ag [.sl (lim (a)).length (qg (lim (a)))],.ag [.sl (lim (b)).length (qg (lim (b)))]] [] (aAV (a-b)):=by
 have lB:(lim b).length≤(lim a).length:=yB hle
 have hA:=qU a
 have hB:=qU b
 refine Con.of_aw Tryz.func258 rfl Tryz.ntmps258 (by simp) (by simp) (by simp) (W.sound ?_)
 show @W Tryz.prog 45 ⟨_⟩ ⟨fun x σ=>@za _ _ _ ⟨_⟩ _ ⟨_⟩ x σ⟩ _ _
 simp(disch:=omega)only[go_sem]
 refine qk (fun x:Nat×List Int×Int=>[(2,.pt 2 0),(3,.pt 3 0),(4,.pt 4 0),(5,.rf 1 0 x.2.1.length),(6,.v (.int .i64 x.2.2)),(7,.v (.int .i64 x.1))])
  (fun x=>[(1,.own 1 (qg x.2.1)),(2,.own 0 [.sl (lim (a)).length (qg (lim (a)))]),(3,.own 0 [.sl (lim (b)).length (qg (lim (b)))]),(4,.own 0 [.v (.slice none 0 0)])])
  (fun x=>x.1≤(lim a).length∧x.2.1.length=x.1∧gd x.2.1∧(0≤x.2.2∧x.2.2≤1)∧vl x.2.1-65536^x.1*x.2.2=vl ((lim a).take x.1)-vl ((lim b).take x.1))
  (fun x=>(lim a).length-x.1) (0,[],0) ⟨by simp,rfl,ZQ,by simp,by simp[vl]⟩
  ((Le.ghost 5 1 1 (by simp(disch:=omega)only[go_sem]) (by simp(disch:=omega)only[go_sem])).trans (Le.lst [(2,40000000),(3,50000000),(4,60000000)] _ _ rfl (by simp(disch:=omega)only[go_sem]) (by simp(disch:=omega)only[go_sem]))) ?_
 rintro⟨i,out,bo⟩ ⟨hi,hol,hog,hbo,hov⟩
 dsimp only at hi hol hog hbo hov ⊢
 simp(disch:=omega)only[go_sem]
 refine qe (fun h1=>?_) (fun h1=>?_)
 ·have hx:=qN hA i
  have hy:=qN hB i
  have hstep:∀z b':Int,(lim a).getD i 0-bo-(lim b).getD i 0=z-65536*b'→vl (out++[z])-65536^(i+1)*b'=vl ((lim a).take (i+1))-vl ((lim b).take (i+1)):=by
   intro z b' hz
   rw[jt,qZ,qZ,hol,Int.pow_succ]
   generalize (65536:Int)^i=Pi at*
   grind
  have hyz:¬i<(lim b).length→(lim b).getD i 0=0:=fun h=>by rw[List.getD_eq_getElem?_getD,List.getElem?_eq_none (by omega)];rfl
  simp(disch:=omega)only[go_sem,h1]
  refine⟨by omega,by omega,qe (fun h2=>?_) (fun h2=>?_)⟩
  ·simp(disch:=omega)only[go_sem,h2]
   refine⟨by omega,by omega,qe (fun h3=>?_) (fun h3=>?_)⟩
   ·simp(disch:=omega)only[go_sem,h3]
    refine⟨by omega,qh (i+1,out++[(lim a).getD i 0-bo-(lim b).getD i 0+65536],1) [(1,440000000)] ⟨by show i+1≤_;omega,by simp[hol],qO.2 ⟨hog,zZ.2 (by omega)⟩,by simp,hstep ((lim a).getD i 0-bo-(lim b).getD i 0+65536) 1 (by omega)⟩ (by show(lim a).length-(i+1)<(lim a).length-i;omega) rfl (by simp(disch:=omega)only[go_sem,List.length_append];try omega) (by simp(disch:=omega)only[go_sem])⟩
   ·simp(disch:=omega)only[go_sem,h3]
    refine⟨by omega,qh (i+1,out++[(lim a).getD i 0-bo-(lim b).getD i 0],0) [(1,440000000)] ⟨by show i+1≤_;omega,by simp[hol],qO.2 ⟨hog,zZ.2 (by omega)⟩,by simp,hstep ((lim a).getD i 0-bo-(lim b).getD i 0) 0 (by omega)⟩ (by show(lim a).length-(i+1)<(lim a).length-i;omega) rfl (by simp(disch:=omega)only[go_sem,List.length_append];try omega) (by simp(disch:=omega)only[go_sem])⟩
  ·simp(disch:=omega)only[go_sem,h2]
   refine qe (fun h3=>?_) (fun h3=>?_)
   ·simp(disch:=omega)only[go_sem,h3]
    have hy0:=hyz (by omega)
    refine⟨by omega,qh (i+1,out++[(lim a).getD i 0-bo+65536],1) [(1,440000000)] ⟨by show i+1≤_;omega,by simp[hol],qO.2 ⟨hog,zZ.2 (by omega)⟩,by simp,hstep ((lim a).getD i 0-bo+65536) 1 (by omega)⟩ (by show(lim a).length-(i+1)<(lim a).length-i;omega) rfl (by simp(disch:=omega)only[go_sem,List.length_append];try omega) (by simp(disch:=omega)only[go_sem])⟩
   ·simp(disch:=omega)only[go_sem,h3]
    have hy0:=hyz (by omega)
    refine⟨by omega,qh (i+1,out++[(lim a).getD i 0-bo],0) [(1,440000000)] ⟨by show i+1≤_;omega,by simp[hol],qO.2 ⟨hog,zZ.2 (by omega)⟩,by simp,hstep ((lim a).getD i 0-bo) 0 (by omega)⟩ (by show(lim a).length-(i+1)<(lim a).length-i;omega) rfl (by simp(disch:=omega)only[go_sem,List.length_append];try omega) (by simp(disch:=omega)only[go_sem])⟩
 ·simp(disch:=omega)only[go_sem,h1]
  have hiA:i=(lim a).length:=by omega
  subst hiA
  rw[List.take_length,List.take_of_length_le lB]at hov
  have hva:=qW a
  have hvb:=qW b
  have hb0:bo=0:=by
   have h2:=yG hog
   rw[hol]at h2
   rcases(by omega:bo=0∨bo=1)with h|h
   ·exact h
   ·subst h;omega
  subst hb0
  have hov2:vl out=((a-b:Nat):Int):=by omega
  refine qB (jr true out (a-b) (by omega) hog hov2) (by simp(disch:=omega)only[go_sem]) ?_
  rintro r hs (⟨h0,rfl,rfl⟩|⟨zs,rfl,rfl⟩)
  ·refine⟨⟨by simp,by simp(disch:=omega)only[go_sem]⟩,?_⟩
   simp(disch:=omega)only[go_sem]
   refine qj [] [] [] [.ag [.v (.slice none 0 0)]] rfl (by simp(disch:=omega)only[go_sem]) (by simp(disch:=omega)only[go_sem]) (by simp) (by intro _;simp[q6,AV.pu,AV.pu.puL,Ob.pu,ze]) (.inl ⟨h0,rfl,rfl⟩)
  ·refine⟨⟨by simp,by simp(disch:=omega)only[go_sem]⟩,?_⟩
   simp(disch:=omega)only[go_sem]
   refine qj [(0,460000000)] [.own 1 (qg (lim (a-b)++zs))] [] [.ag [.rf 0 0 (lim (a-b)).length]] rfl (by simp(disch:=omega)only[go_sem]) (by simp(disch:=omega)only[go_sem]) (by simp) (by intro _;simp[q6,AV.pu,AV.pu.puL,Ob.pu,ze]) (.inr ⟨zs,rfl,rfl⟩)
end Go.Ab
namespace Go.Ab
open Go Go.Proofs
theorem JT(a b:Nat)(hle:b≤a)(la:(lim a).length≤1000000):Con Tryz.prog 258 false [.ag [.sl (lim (a)).length (qg (lim (a)))],.ag [.sl (lim (b)).length (qg (lim (b)))]] [] (isA (.ag [.sl (lim (a-b)).length (qg (lim (a-b)))])):=(apM false a b hle la).natF
theorem apL(s1:Bool)(m1:Nat)(s2:Bool)(m2:Nat)(h1:bl m1≤6000000)(h2:bl m2≤6000000):
  Con Tryz.prog 201 false [.ag [.v (.bool (s1)),.sl (lim (m1)).length (qg (lim (m1)))],.ag [.v (.bool (s2)),.sl (lim (m2)).length (qg (lim (m2)))]] [] (isA (.ag [.v (.bool (suS s1 m1 s2 m2)),.sl (lim (suM s1 m1 s2 m2)).length (qg (lim (suM s1 m1 s2 m2)))])):=by
 refine Con.frzA ?_
 have l1:=qy h1
 have l2:=qy h2
 have hge:(0≤zE (m1:Int) (m2:Int))↔m2≤m1:=by rw[adN.2.2];omega
 have hb:=aey (s1:=s1) (s2:=s2) h1 h2
 have l3:=qy hb
 rw[←anR]
 refine Con.of_w (rs:=[.cell 4 27]) Tryz.func201 rfl Tryz.ntmps201 rfl ?_
 simp(disch:=omega)only[go_sem]
 refine zY (fun c1=>?_) (fun c1=>?_)
 ·have c1':s1=s2:=by simpa using c1
  simp(disch:=omega)only[go_sem,c1]
  subst c1'
  rw[ad8,ad7]at*
  refine qo rfl [⟨0,[],[]⟩,⟨1,[],[]⟩,⟨2,[1],[]⟩,⟨3,[1],[]⟩,⟨4,[1,3],[]⟩,⟨5,[1,3],[]⟩,⟨6,[1],[]⟩,⟨7,[],[]⟩,⟨8,[],[]⟩] (by kernel_rfl) ?_
  simp(disch:=omega)only[go_sem]
  refine qa (QN m1 m2 (by omega) (by omega)) ?_
  simp(disch:=omega)only[go_sem]
  refine qa (zb s1 (m1+m2) (by omega)) ?_
  simp(disch:=omega)only[go_sem]
  exact qn
 ·have c1':s1≠s2:=by simpa using c1
  simp(disch:=omega)only[go_sem,c1]
  refine qb (Z4 m1 m2 (by omega) (by omega)) ?_
  simp(disch:=omega)only[go_sem]
  refine qe (fun c2=>?_) (fun c2=>?_)
  ·have c2':m2≤m1:=hge.1 (by omega)
   rw[aDN c1' c2',aDF c1' c2']at*
   simp(disch:=omega)only[go_sem,c2]
   refine qo rfl [⟨0,[],[]⟩,⟨1,[],[]⟩,⟨2,[1],[]⟩,⟨3,[1],[]⟩,⟨4,[1,3],[]⟩,⟨5,[1,3],[]⟩,⟨6,[1],[]⟩,⟨7,[],[]⟩,⟨8,[],[]⟩] (by kernel_rfl) ?_
   simp(disch:=omega)only[go_sem]
   refine qa (JT m1 m2 c2' (by omega)) ?_
   simp(disch:=omega)only[go_sem]
   refine qa (zb s1 (m1-m2) (by omega)) ?_
   simp(disch:=omega)only[go_sem]
   exact qn
  ·have c2':¬m2≤m1:=fun h=>c2 (by have:=hge.2 h;omega)
   rw[aDM c1' c2',aDE c1' c2']at*
   simp(disch:=omega)only[go_sem,c2]
   refine qo rfl [⟨0,[],[]⟩,⟨1,[],[]⟩,⟨2,[1],[]⟩,⟨3,[1],[]⟩,⟨4,[1,3],[]⟩,⟨5,[1,3],[]⟩,⟨6,[1],[]⟩,⟨7,[],[]⟩,⟨8,[],[]⟩] (by kernel_rfl) ?_
   simp(disch:=omega)only[go_sem]
   refine qa (JT m2 m1 (by omega) (by omega)) ?_
   simp(disch:=omega)only[go_sem]
   refine qa (zb s2 (m2-m1) (by omega)) ?_
   simp(disch:=omega)only[go_sem]
   exact qn
theorem apI(s:Bool)(m:Nat)(hl:(lim m).length≤2^39):Con Tryz.prog 257 false [.ag [.v (.bool (s)),.sl (lim (m)).length (qg (lim (m)))]] [] (isA (.ag [.v (.bool ((!s)&&decide (m≠0))),.sl (lim (m)).length (qg (lim (m)))])):=by
 refine Con.frzA ?_
 refine Con.of_w (rs:=[.cell 2 27]) Tryz.func257 rfl Tryz.ntmps257 rfl ?_
 simp(disch:=omega)only[go_sem]
 refine qa (zb (!s) m hl) ?_
 simp(disch:=omega)only[go_sem]
 exact qn
theorem apD(s:Bool)(m:Nat)(e:Int)(hl:(lim m).length≤2^39):Con Tryz.prog 199 false [.ag [.v (.bool (s)),.sl (lim (m)).length (qg (lim (m))),.v (.int .i64 (e))]] [] (isA (.ag [.v (.bool ((!s)&&decide (m≠0))),.sl (lim (m)).length (qg (lim (m))),.v (.int .i64 (e))])):=by
 refine Con.frzA ?_
 refine Con.of_w (rs:=[.cell 2 29]) Tryz.func199 rfl Tryz.ntmps199 rfl ?_
 simp(disch:=omega)only[go_sem]
 refine qo rfl [⟨0,[],[]⟩,⟨1,[],[]⟩,⟨3,[1],[]⟩,⟨4,[1],[]⟩,⟨2,[4],[]⟩,⟨5,[],[]⟩,⟨6,[],[]⟩] (by kernel_rfl) ?_
 simp(disch:=omega)only[go_sem]
 refine qa (apI s m hl) ?_
 simp(disch:=omega)only[go_sem]
 exact qn
def alF(m1:Nat)(e1:Int)(m2:Nat)(e2:Int):Int:=if m1=0 then e2 else if m2=0 then e1 else if e1≤e2 then e1 else e2
theorem aSV(m1:Nat)(e1:Int)(m2:Nat)(e2:Int)(h:¬(m1=0∧m2=0)):alF m1 e1 m2 e2=alE m1 e1 m2 e2:=by
 unfold alF alE
 repeat' split
 all_goals omega
theorem Z1(s1:Bool)(m1:Nat)(e1:Int)(s2:Bool)(m2:Nat)(e2:Int)(h1:bl m1≤4000000)(h2:bl m2≤4000000)(he1: -1000000≤e1∧e1≤1000000)(he2: -1000000≤e2∧e2≤1000000)(z1:m1=0→s1=false)(z2:m2=0→s2=false):
  Con Tryz.prog 157 false [.ag [.v (.bool (s1)),.sl (lim (m1)).length (qg (lim (m1))),.v (.int .i64 (e1))],.ag [.v (.bool (s2)),.sl (lim (m2)).length (qg (lim (m2))),.v (.int .i64 (e2))]] [] (isA (.tu [.ag [.v (.bool (s1)),.sl (lim (alA m1 e1 (alE m1 e1 m2 e2))).length (qg (lim (alA m1 e1 (alE m1 e1 m2 e2))))],.ag [.v (.bool (s2)),.sl (lim (alA m2 e2 (alE m1 e1 m2 e2))).length (qg (lim (alA m2 e2 (alE m1 e1 m2 e2))))],.v (.int .i64 (alF m1 e1 m2 e2))])):=by
 refine Con.frzA ?_
 have l1:=qy h1
 have l2:=qy h2
 refine Con.of_aw Tryz.func157 rfl Tryz.ntmps157 (by simp) (by simp) (by simp) (W.sound ?_)
 show @W Tryz.prog 70 ⟨_⟩ ⟨fun x σ=>@za _ _ _ ⟨_⟩ _ ⟨_⟩ x σ⟩ _ _
 simp(disch:=omega)only[go_sem]
 refine qe (fun c1=>?_) (fun c1=>?_)
 ·have y1:m1=0:=qH.1 (List.length_eq_zero_iff.1 (by omega))
  have eF:alF m1 e1 m2 e2=e2:=by unfold alF;rw[if_pos y1]
  have a1:alA m1 e1 (alE m1 e1 m2 e2)=m1:=by rw[y1];unfold alA;rw[Nat.zero_mul]
  have a2:alA m2 e2 (alE m1 e1 m2 e2)=m2:=by
   by_cases y2:m2=0
   ·rw[y2];unfold alA;rw[Nat.zero_mul]
   ·unfold alA alE;rw[if_neg y2,if_pos y1,Int.sub_self];simp
  simp(disch:=omega)only[go_sem,c1]
  refine qo rfl [⟨0,[],[]⟩,⟨1,[],[]⟩,⟨2,[1],[]⟩,⟨3,[1],[]⟩,⟨4,[1,3],[]⟩,⟨5,[1,3],[]⟩,⟨6,[3,5],[]⟩,⟨7,[5],[]⟩,⟨8,[],[]⟩] (by kernel_rfl) ?_
  simp(disch:=omega)only[go_sem]
  refine qE (by simp(disch:=omega)only[go_sem]) ?_
  show qP _ 6 _=_
  rw[eF,a1,a2]
  simp(disch:=omega)only[go_sem]
 ·have y1:m1≠0:=fun e=>c1 (by rw[e,qm];rfl)
  simp(disch:=omega)only[go_sem,c1]
  refine qe (fun c2=>?_) (fun c2=>?_)
  ·have y2:m2=0:=qH.1 (List.length_eq_zero_iff.1 (by omega))
   have eF:alF m1 e1 m2 e2=e1:=by unfold alF;rw[if_neg y1,if_pos y2]
   have a1:alA m1 e1 (alE m1 e1 m2 e2)=m1:=by unfold alA alE;rw[if_pos y2,Int.sub_self];simp
   have a2:alA m2 e2 (alE m1 e1 m2 e2)=m2:=by rw[y2];unfold alA;rw[Nat.zero_mul]
   simp(disch:=omega)only[go_sem,c2]
   refine qo rfl [⟨0,[],[]⟩,⟨1,[],[]⟩,⟨2,[1],[]⟩,⟨3,[1],[]⟩,⟨4,[1,3],[]⟩,⟨5,[1,3],[]⟩,⟨6,[3,5],[]⟩,⟨7,[5],[]⟩,⟨8,[],[]⟩] (by kernel_rfl) ?_
   simp(disch:=omega)only[go_sem]
   refine qE (by simp(disch:=omega)only[go_sem]) ?_
   show qP _ 6 _=_
   rw[eF,a1,a2]
   simp(disch:=omega)only[go_sem]
  ·have y2:m2≠0:=fun e=>c2 (by rw[e,qm];rfl)
   simp(disch:=omega)only[go_sem,c2]
   refine qe (fun c3=>?_) (fun c3=>?_)
   ·have eF:alF m1 e1 m2 e2=e1:=by unfold alF;rw[if_neg y1,if_neg y2,if_pos c3]
    have eE:alE m1 e1 m2 e2=e1:=by unfold alE;rw[if_neg y2,if_neg y1,if_neg (by omega)]
    have a1:alA m1 e1 (alE m1 e1 m2 e2)=m1:=by rw[eE];unfold alA;rw[Int.sub_self];simp
    have ek:e2-e1=(((e2-e1).toNat:Nat):Int):=by omega
    have hb:bl (m2*2^(e2-e1).toNat)≤6000000:=by have:=YV m2 (e2-e1).toNat;omega
    have l3:=qy hb
    have hn:m2*2^(e2-e1).toNat≠0:=Nat.mul_ne_zero y2 (Nat.pos_iff_ne_zero.1 (Nat.pow_pos (by omega)))
    have hd:decide (m2*2^(e2-e1).toNat≠0)=true:=decide_eq_true hn
    simp(disch:=omega)only[go_sem,c3]
    refine qo rfl [⟨0,[],[]⟩,⟨1,[],[]⟩,⟨2,[1],[]⟩,⟨3,[1],[]⟩,⟨4,[1],[]⟩,⟨5,[1,4],[]⟩,⟨6,[1,4],[]⟩,⟨7,[1,4],[]⟩,⟨8,[1,4,7],[]⟩,⟨9,[1,4,7],[]⟩,⟨10,[1,4,7,9],[]⟩,⟨11,[1,4,7,9],[]⟩,⟨12,[1,4,7],[]⟩,⟨15,[1,4,7,9,11],[]⟩,⟨16,[1,4,7,9,11],[]⟩,⟨13,[1,4,16],[]⟩,⟨14,[1,16],[]⟩,⟨17,[16],[]⟩,⟨18,[16],[]⟩,⟨19,[],[]⟩] (by kernel_rfl) ?_
    simp(disch:=omega)only[go_sem]
    refine qF (zd m2 (e2-e1).toNat (by omega) (by omega)) (by simp(disch:=omega)only[go_sem,←ek]) ?_
    rintro r hs ⟨rfl,rfl,_⟩
    refine⟨by simp[qS],?_⟩
    simp(disch:=omega)only[go_sem]
    refine qa (zb s2 (m2*2^(e2-e1).toNat) (by omega)) ?_
    simp(disch:=omega)only[go_sem]
    refine qE (by simp(disch:=omega)only[go_sem]) ?_
    show qP _ 6 _=_
    rw[eF,a1,eE,hd];unfold alA
    simp(disch:=omega)only[go_sem,Bool.and_true]
   ·have eF:alF m1 e1 m2 e2=e2:=by unfold alF;rw[if_neg y1,if_neg y2,if_neg c3]
    have eE:alE m1 e1 m2 e2=e2:=by unfold alE;rw[if_neg y2,if_neg y1,if_pos (by omega)]
    have a2:alA m2 e2 (alE m1 e1 m2 e2)=m2:=by rw[eE];unfold alA;rw[Int.sub_self];simp
    have ek:e1-e2=(((e1-e2).toNat:Nat):Int):=by omega
    have hb:bl (m1*2^(e1-e2).toNat)≤6000000:=by have:=YV m1 (e1-e2).toNat;omega
    have l3:=qy hb
    have hn:m1*2^(e1-e2).toNat≠0:=Nat.mul_ne_zero y1 (Nat.pos_iff_ne_zero.1 (Nat.pow_pos (by omega)))
    have hd:decide (m1*2^(e1-e2).toNat≠0)=true:=decide_eq_true hn
    simp(disch:=omega)only[go_sem,c3]
    refine qo rfl [⟨0,[],[]⟩,⟨1,[],[]⟩,⟨2,[],[]⟩,⟨3,[2],[]⟩,⟨4,[2],[]⟩,⟨5,[2],[]⟩,⟨6,[2,5],[]⟩,⟨7,[2,5],[]⟩,⟨8,[2,5,7],[]⟩,⟨9,[2,5,7],[]⟩,⟨10,[2,5],[]⟩,⟨13,[2,5,7,9],[]⟩,⟨14,[2,5,7,9],[]⟩,⟨15,[2,5,7,9,14],[]⟩,⟨16,[2,5,7,9,14],[]⟩,⟨11,[2,14,16],[]⟩,⟨12,[14,16],[]⟩,⟨17,[14,16],[]⟩,⟨18,[16],[]⟩,⟨19,[],[]⟩] (by kernel_rfl) ?_
    simp(disch:=omega)only[go_sem]
    refine qF (zd m1 (e1-e2).toNat (by omega) (by omega)) (by simp(disch:=omega)only[go_sem,←ek]) ?_
    rintro r hs ⟨rfl,rfl,_⟩
    refine⟨by simp[qS],?_⟩
    simp(disch:=omega)only[go_sem]
    refine qa (zb s1 (m1*2^(e1-e2).toNat) (by omega)) ?_
    simp(disch:=omega)only[go_sem]
    refine qE (by simp(disch:=omega)only[go_sem]) ?_
    show qP _ 6 _=_
    rw[eF,a2,eE,hd];unfold alA
    simp(disch:=omega)only[go_sem,Bool.and_true]
theorem apH(s1:Bool)(m1:Nat)(e1:Int)(s2:Bool)(m2:Nat)(e2:Int)(h1:bl m1≤4000000)(h2:bl m2≤4000000)(he1: -1000000≤e1∧e1≤1000000)(he2: -1000000≤e2∧e2≤1000000)(z1:m1=0→s1=false)(z2:m2=0→s2=false):
  Con Tryz.prog 126 false [.ag [.v (.bool (s1)),.sl (lim (m1)).length (qg (lim (m1))),.v (.int .i64 (e1))],.ag [.v (.bool (s2)),.sl (lim (m2)).length (qg (lim (m2))),.v (.int .i64 (e2))]] [] (isA (.ag [.v (.bool (oS (adS s1 m1 e1 s2 m2 e2) (adM s1 m1 e1 s2 m2 e2))),.sl (lim (oM (adM s1 m1 e1 s2 m2 e2))).length (qg (lim (oM (adM s1 m1 e1 s2 m2 e2)))),.v (.int .i64 (oE (adM s1 m1 e1 s2 m2 e2) (alE m1 e1 m2 e2)))])):=by
 refine Con.frzA ?_
 have hE:=Jg (m1:=m1) (m2:=m2) he1.1 he2.1
 have b1:=Q0 (e:=e1) (E:=alE m1 e1 m2 e2) (C:=2000000) h1 (by omega)
 have b2:=Q0 (e:=e2) (E:=alE m1 e1 m2 e2) (C:=2000000) h2 (by omega)
 have hF: -1000000≤alF m1 e1 m2 e2∧alF m1 e1 m2 e2≤1000000:=by
  unfold alF
  repeat' split
  all_goals omega
 have hX:oE (adM s1 m1 e1 s2 m2 e2) (alE m1 e1 m2 e2)=oE (adM s1 m1 e1 s2 m2 e2) (alF m1 e1 m2 e2):=by
  by_cases h:m1=0∧m2=0
  ·have:adM s1 m1 e1 s2 m2 e2=0:=by rw[h.1,h.2];unfold adM alA;rw[Nat.zero_mul,Nat.zero_mul];unfold suM;rw[Qz,Qz];rfl
   rw[this];rfl
  ·rw[aSV _ _ _ _ h]
 rw[hX]
 have l1:=qy h1
 have l2:=qy h2
 refine Con.of_w (rs:=[.cell 4 29]) Tryz.func126 rfl Tryz.ntmps126 rfl ?_
 simp(disch:=omega)only[go_sem]
 refine qa (Z1 s1 m1 e1 s2 m2 e2 h1 h2 he1 he2 z1 z2) ?_
 simp(disch:=omega)only[go_sem]
 unfold adS adM
 generalize alA m1 e1 (alE m1 e1 m2 e2)=A at*
 generalize alA m2 e2 (alE m1 e1 m2 e2)=B at*
 generalize alF m1 e1 m2 e2=E at*
 refine qa (apL s1 A s2 B (by omega) (by omega)) ?_
 simp(disch:=omega)only[go_sem]
 have hb:=aey (s1:=s1) (s2:=s2) b1 b2
 refine qa (zS (suS s1 A s2 B) (suM s1 A s2 B) E (by omega) (by omega)) ?_
 simp(disch:=omega)only[go_sem]
 exact qn
end Go.Ab
namespace Go.Ab
open Go Go.Proofs
theorem apC(neg:Bool)(m k:Nat)(mode:Int)(hl:(lim m).length≤2^40)(hk:1≤k)(hk2:k≤2^40):Con Tryz.prog 291 true [.v (.bool neg),.ag [.sl (lim (m)).length (qg (lim (m)))],.v (.int .i64 k),.v (.int .i64 mode)] [] (isA (.v (.bool (ajz neg m k mode)))):=by
 refine Con.of_aw Tryz.func291 rfl Tryz.ntmps291 (by simp) (by simp) (by simp) (W.sound ?_)
 show @W Tryz.prog 44 ⟨_⟩ ⟨fun x σ=>@za _ _ _ ⟨_⟩ _ ⟨_⟩ x σ⟩ _ _
 have ek:((k:Int)-1)=((k-1:Nat):Int):=by omega
 have e1:decide (((m/2^(k-1) % 2:Nat):Int)=1)=decide (m/2^(k-1) % 2=1):=by rw[decide_eq_decide];omega
 have e2:decide (((m/2^k % 2:Nat):Int)=1)=decide (m/2^k % 2=1):=by rw[decide_eq_decide];omega
 have e3:decide ((tz m:Int)<((k-1:Nat):Int))=decide (tz m<k-1):=by rw[decide_eq_decide];omega
 simp(disch:=omega)only[go_sem,ek]
 refine qB (Qt m ((k-1:Nat):Int) hl (by omega) (by omega)) (by simp(disch:=omega)only[go_sem,ek]) ?_
 rintro r hs ⟨rfl,rfl,_⟩
 refine⟨by simp[qS],?_⟩
 simp(disch:=omega)only[go_sem,ek,e1]
 refine qb (Z2 m hl) ?_
 simp(disch:=omega)only[go_sem]
 refine qe (fun h1=>?_) (fun h1=>?_)
 ·simp(disch:=omega)only[go_sem,h1]
  exact qc (by simp(disch:=omega)only[go_sem]) (by simp(disch:=omega)only[go_sem]) ⟨by simp[q6,ajz,h1],rfl,rfl⟩
 ·simp(disch:=omega)only[go_sem,h1]
  refine qe (fun h2=>?_) (fun h2=>?_)
  ·simp(disch:=omega)only[go_sem,h2]
   exact qc (by simp(disch:=omega)only[go_sem]) (by simp(disch:=omega)only[go_sem]) ⟨by simp[q6,ajz,h2],rfl,rfl⟩
  ·simp(disch:=omega)only[go_sem,h2]
   refine qe (fun h3=>?_) (fun h3=>?_)
   ·simp(disch:=omega)only[go_sem,h3]
    exact qc (by simp(disch:=omega)only[go_sem]) (by simp(disch:=omega)only[go_sem]) ⟨by simp[q6,ajz,h3],rfl,rfl⟩
   ·simp(disch:=omega)only[go_sem,h3]
    refine qe (fun h4=>?_) (fun h4=>?_)
    ·simp(disch:=omega)only[go_sem,h4]
     exact qc (by simp(disch:=omega)only[go_sem]) (by simp(disch:=omega)only[go_sem]) ⟨by simp[q6,ajz,h4],rfl,rfl⟩
    ·simp(disch:=omega)only[go_sem,h4]
     refine zY (fun h5=>?_) (fun h5=>?_)
     ·simp(disch:=omega)only[go_sem,h5]
      refine z7 (fun h6=>?_) (fun h6=>?_)
      ·simp(disch:=omega)only[go_sem,h6]
       refine qb (Qt m (k:Int) hl (by omega) (by omega)) ?_
       simp(disch:=omega)only[go_sem]
       have h7:decide (tz m<k-1)=false:=by rw[←e3,←ek];exact h6
       rw[e2]
       refine qc (by simp(disch:=omega)only[go_sem]) (by simp(disch:=omega)only[go_sem]) ⟨?_,rfl,rfl⟩
       show AV.v (.bool _)=AV.v (.bool _)
       unfold ajz;rw[if_neg h1,if_neg h2,if_neg h3,if_neg h4,h5,h7];rfl
      ·simp(disch:=omega)only[go_sem,h6]
       have h7:decide (tz m<k-1)=true:=by rw[←e3,←ek];exact h6
       refine qc (by simp(disch:=omega)only[go_sem]) (by simp(disch:=omega)only[go_sem]) ⟨?_,rfl,rfl⟩
       show AV.v (.bool _)=AV.v (.bool _)
       unfold ajz;rw[if_neg h1,if_neg h2,if_neg h3,if_neg h4,h5,h7];rfl
     ·simp(disch:=omega)only[go_sem,h5]
      refine qc (by simp(disch:=omega)only[go_sem]) (by simp(disch:=omega)only[go_sem]) ⟨?_,rfl,rfl⟩
      show AV.v (.bool _)=AV.v (.bool _)
      unfold ajz;rw[if_neg h1,if_neg h2,if_neg h3,if_neg h4,h5];rfl
def srM(s:Bool)(m:Nat)(e low mode:Int):Nat:=oM (roM s m e low mode)
def srE(s:Bool)(m:Nat)(e low mode:Int):Int:=if low≤e∨m=0 then e else oE (roM s m e low mode) low
theorem Z0(s:Bool)(m:Nat)(e low mode:Int)(hodd:m % 2=1∨m=0)(hs:m=0→s=false)(hmode:0≤mode∧mode≤4)(hm:bl m≤4000000)(he: -1000000≤e∧e≤1000000)(hlo: -1000000≤low∧low≤1000000):
  Con Tryz.prog 261 false [.ag [.v (.bool (s)),.sl (lim (m)).length (qg (lim (m))),.v (.int .i64 (e))],.v (.int .i64 low),.v (.int .i64 mode)] []
   (isA (.tu [.ag [.v (.bool (oS (roS s m e low mode) (roM s m e low mode))),.sl (lim (srM s m e low mode)).length (qg (lim (srM s m e low mode))),.v (.int .i64 (srE s m e low mode))],.v (.bool (roX m e low))])):=by
 refine Con.frzA ?_
 have l1:=qy hm
 refine Con.of_aw Tryz.func261 rfl Tryz.ntmps261 (by simp) (by simp) (by simp) (W.sound ?_)
 show @W Tryz.prog 51 ⟨_⟩ ⟨fun x σ=>@za _ _ _ ⟨_⟩ _ ⟨_⟩ x σ⟩ _ _
 simp(disch:=omega)only[go_sem]
 refine q7 (fun h1=>?_) (fun h1=>?_)
 ·have h0:m≠0:=fun e=>h1 (by rw[e,qm];rfl)
  have hod:m % 2=1:=hodd.resolve_right h0
  simp(disch:=omega)only[go_sem,h1]
  refine qe (fun h2=>?_) (fun h2=>?_)
  ·simp(disch:=omega)only[go_sem,h2]
   refine qE (by simp(disch:=omega)only[go_sem]) ?_
   show qP _ 6 _=_
   have ht:=Zo hod
   have e3:oM m=m:=by unfold oM;rw[ht];simp
   simp only[srM,srE,roM,roS,roX,h2,true_or,if_true,oS,if_neg h0,e3]
   simp(disch:=omega)only[go_sem]
  ·simp(disch:=omega)only[go_sem,h2]
   have ek:low-e=(((low-e).toNat:Nat):Int):=by omega
   have hk1:1≤(low-e).toNat:=by omega
   refine qF (K1 m (low-e).toNat (by omega) (by omega)) (by simp(disch:=omega)only[go_sem,←ek]) ?_
   rintro r hs ⟨rfl,rfl,_⟩
   refine⟨by simp[qS],?_⟩
   simp(disch:=omega)only[go_sem]
   refine qB (apC s m (low-e).toNat mode (by omega) hk1 (by omega)) (by simp(disch:=omega)only[go_sem,←ek]) ?_
   rintro r hs ⟨rfl,rfl,_⟩
   refine⟨by simp[qS],?_⟩
   simp(disch:=omega)only[go_sem]
   have hc:¬(low≤e∨m=0):=by omega
   have hne:=aI8 hod hk1
   have hups:=aMi (neg:=s) hod hk1 hmode
   have hq:roM s m e low mode=if ajz s m (low-e).toNat mode=true then m/2^(low-e).toNat+1 else m/2^(low-e).toNat:=by
    unfold roM rq
    rw[if_neg hc,if_neg hne,←hups]
   have hro:roS s m e low mode=(s&&decide (roM s m e low mode≠0)):=by unfold roS roM;rw[if_neg hc,if_neg hc]
   have hblq:bl (m/2^(low-e).toNat+1)≤4000001:=by
    have h3:=YW (m/2^(low-e).toNat)
    have h4:=Qw m (2^(low-e).toNat)
    omega
   have hblq0:bl (m/2^(low-e).toNat)≤4000001:=Nat.le_trans (zf (by omega)) hblq
   have lq:=qy hblq
   have lq0:=qy hblq0
   have hrx:roX m e low=false:=by unfold roX;rw[if_neg hc];simp[hne]
   have hfin:∀q,roM s m e low mode=q→bl q≤4000001→AV.ag [.v (.bool (oS (s&&decide (q≠0)) q)),.sl (lim (oM q)).length (qg (lim (oM q))),.v (.int .i64 (oE q low))]=AV.ag [.v (.bool (oS (roS s m e low mode) (roM s m e low mode))),.sl (lim (srM s m e low mode)).length (qg (lim (srM s m e low mode))),.v (.int .i64 (srE s m e low mode))]:=by
    intro q hq' _
    rw[hro,hq']
    unfold srM srE
    rw[if_neg hc,hq']
   refine zY (fun h3=>?_) (fun h3=>?_)
   ·rw[if_pos h3]at hq
    simp(disch:=omega)only[go_sem,h3]
    refine qo rfl [⟨0,[],[]⟩,⟨1,[0],[]⟩,⟨2,[],[]⟩,⟨3,[],[]⟩] (by kernel_rfl) ?_
    simp(disch:=omega)only[go_sem]
    refine qa (yu 1 (by omega)) ?_
    simp(disch:=omega)only[go_sem]
    refine qa (QN (m/2^(low-e).toNat) 1 (by omega) (by have:=qy (m:=1) (B:=1) (by decide);omega)) ?_
    simp(disch:=omega)only[go_sem]
    refine qa (zb s (m/2^(low-e).toNat+1) (by omega)) ?_
    simp(disch:=omega)only[go_sem]
    refine qa (zS (s&&decide (m/2^(low-e).toNat+1≠0)) (m/2^(low-e).toNat+1) low (by omega) (by omega)) ?_
    simp(disch:=omega)only[go_sem]
    refine qE (by simp(disch:=omega)only[go_sem]) ?_
    show qP _ 6 _=_
    rw[←hfin _ hq hblq,hrx]
    simp(disch:=omega)only[go_sem]
   ·rw[if_neg (by rw[h3];simp)]at hq
    simp(disch:=omega)only[go_sem,h3]
    refine qa (zb s (m/2^(low-e).toNat) (by omega)) ?_
    simp(disch:=omega)only[go_sem]
    refine qa (zS (s&&decide (m/2^(low-e).toNat≠0)) (m/2^(low-e).toNat) low (by omega) (by omega)) ?_
    simp(disch:=omega)only[go_sem]
    refine qE (by simp(disch:=omega)only[go_sem]) ?_
    show qP _ 6 _=_
    rw[←hfin _ hq hblq0,hrx]
    simp(disch:=omega)only[go_sem]
 ·have h0:m=0:=qH.1 (List.length_eq_zero_iff.1 (by omega))
  simp(disch:=omega)only[go_sem,h1]
  refine qE (by simp(disch:=omega)only[go_sem]) ?_
  show qP _ 6 _=_
  have hs0:=hs h0
  subst h0
  subst hs0
  simp only[srM,srE,roM,roS,roX,or_true,if_true,oS,j6]
  simp(disch:=omega)only[go_sem]
end Go.Ab
namespace Go.Ab
open Go Go.Proofs
theorem apB:Con Tryz.prog 204 true [] [] (isA (.ag [.v (.int .i64 (3)),.v (.bool (false)),.v (.int .i64 (0)),.v (.int .i64 (0))])):=by
 refine Con.of_w (rs:=[.cell 0 63]) Tryz.func204 rfl Tryz.ntmps204 rfl ?_
 simp(disch:=omega)only[go_sem]
 exact qq
theorem qJ(s:Bool):Con Tryz.prog 256 true [.v (.bool s)] [] (isA (.ag [.v (.int .i64 (1)),.v (.bool (s)),.v (.int .i64 (9007199254740991)),.v (.int .i64 (971))])):=by
 refine Con.of_w (rs:=[.cell 2 63]) Tryz.func256 rfl Tryz.ntmps256 rfl ?_
 simp(disch:=omega)only[go_sem]
 exact qq
theorem aMY{s:Bool}{m:Nat}{e low mode:Int}(hodd:m % 2=1):srM s m e low mode=oM (roM s m e low mode)∧srE s m e low mode=oE (roM s m e low mode) (roE m e low):=by
 refine⟨rfl,?_⟩
 unfold srE
 by_cases h:low≤e∨m=0
 ·have h0:m≠0:=fun e=>by omega
  rw[if_pos h]
  unfold roM roE oE
  rw[if_pos h,if_pos h,if_neg h0,Zo hodd];simp
 ·rw[if_neg h]
  unfold roE
  rw[if_neg h]
theorem aDO{s:Bool}{m:Nat}{e low mode:Int}(h:roM s m e low mode≠0):oS (roS s m e low mode) (roM s m e low mode)=s:=by
 unfold oS;rw[if_neg h]
 unfold roS roM at*
 by_cases hc:low≤e∨m=0
 ·rw[if_pos hc]
 ·rw[if_neg hc]at h ⊢
  simp[h]
theorem aDU{m:Nat}{e:Int}{B:Nat}(h:bl m≤B)(he: -1000000≤e∧e≤1000000): -1000000≤oE m e∧oE m e≤1000000+B:=by
 unfold oE
 by_cases h0:m=0
 ·rw[if_pos h0];omega
 ·rw[if_neg h0];have:=j0 h0;omega
set_option maxRecDepth 100000 in
set_option maxHeartbeats 1000000 in
theorem adx(s:Bool)(m:Nat)(e mode:Int)(z:Bool)(hodd:m % 2=1∨m=0)(hs:m=0→s=false)(hmode:0≤mode∧mode≤4)(hm:bl m≤100000)(he: -100000≤e∧e≤100000):
  Con Tryz.prog 205 true [.ag [.v (.bool (s)),.sl (lim (m)).length (qg (lim (m))),.v (.int .i64 (e))],.v (.int .i64 mode),.v (.bool z)] []
   (isA (.tu [.ag [.v (.int .i64 ((flV s m e mode z).k)),.v (.bool ((flV s m e mode z).s)),.v (.int .i64 ((flV s m e mode z).m)),.v (.int .i64 ((flV s m e mode z).e))],.v (.int .i64 (flG s m e mode))])):=by
 have hl:=qy hm
 refine Con.of_aw Tryz.func205 rfl Tryz.ntmps205 (by simp) (by simp) (by simp) (W.sound ?_)
 show @W Tryz.prog 105 ⟨_⟩ ⟨fun x σ=>@za _ _ _ ⟨_⟩ _ ⟨_⟩ x σ⟩ _ _
 simp(disch:=omega)only[go_sem]
 refine qe (fun h1=>?_) (fun h1=>?_)
 ·have h0:m=0:=qH.1 (List.length_eq_zero_iff.1 (by omega))
  simp(disch:=omega)only[go_sem,h1]
  refine qc (by simp(disch:=omega)only[go_sem]) (by simp(disch:=omega)only[go_sem]) ⟨?_,rfl,rfl⟩
  simp only[q6,flV,flG,h0,if_true]
 ·have h0:m≠0:=fun e=>h1 (by rw[e,qm];rfl)
  have hod:m % 2=1:=hodd.resolve_right h0
  simp(disch:=omega)only[go_sem,h1]
  have etop:(if m=0 then(0:Int)else e+(bl m:Int))=(bl m:Int)+e:=by rw[if_neg h0];omega
  refine qb (zj s m e (by omega) (by omega)) ?_ (by simp(disch:=omega)only[go_sem,etop])
  simp(disch:=omega)only[go_sem]
  simp(disch:=omega)only[go_sem,etop]
  have hL0:qC ((bl m:Int)+e)=(if-1074>(bl m:Int)+e-53 then-1074 else(bl m:Int)+e-53):=rfl
  have hVG:∀(k mm ee fg:Int),flK s mode (roM s m e (qC (bl m+e)) mode) (roE m e (qC (bl m+e)))=k→j8 s mode (roM s m e (qC (bl m+e)) mode) (roE m e (qC (bl m+e)))=mm→j9 s mode (roM s m e (qC (bl m+e)) mode) (roE m e (qC (bl m+e)))=ee→
    jZ (bl m+e) (roX m e (qC (bl m+e))) (roM s m e (qC (bl m+e)) mode) (roE m e (qC (bl m+e)))=fg→
    AV.tu [.ag [.v (.int .i64 k),.v (.bool s),.v (.int .i64 mm),.v (.int .i64 ee)],.v (.int .i64 fg)]=.tu [.ag [.v (.int .i64 ((flV s m e mode z).k)),.v (.bool ((flV s m e mode z).s)),.v (.int .i64 ((flV s m e mode z).m)),.v (.int .i64 ((flV s m e mode z).e))],.v (.int .i64 (flG s m e mode))]:=by
   intro k mm ee fg g1 g2 g3 g4
   unfold flV flG
   rw[if_neg h0,if_neg h0,g1,g2,g3,g4]
  have hform:=Yb (s:=s) (m:=m) (e:=e) (mode:=mode) h0
  refine qe (fun h2=>?_) (fun h2=>?_)
  ·have hL:qC ((bl m:Int)+e)= -1074:=by unfold qC;rw[if_pos (by omega)]
   simp(disch:=omega)only[go_sem,h2]
   have hbl:=aIp (s:=s) (e:=e) (low:= -1074) (mode:=mode) hm
   have hroE: -1000000≤roE m e (-1074)∧roE m e (-1074)≤1000000:=by unfold roE;split<;>omega
   obtain⟨q1,q2⟩:=aMY (s:=s) (e:=e) (low:= -1074) (mode:=mode) hod
   have q3:=aDO (s:=s) (m:=m) (e:=e) (low:= -1074) (mode:=mode)
   refine qa (Z0 s m e (-1074) mode hodd hs hmode (by omega) (by omega) (by omega)) ?_ (by simp(disch:=omega)only[go_sem,etop])
   simp(disch:=omega)only[go_sem]
   rw[hL]at hVG hform
   generalize srM s m e (-1074) mode=xm at*
   generalize srE s m e (-1074) mode=xe at*
   generalize oS (roS s m e (-1074) mode) (roM s m e (-1074) mode)=xs at*
   generalize hrm:roM s m e (-1074) mode=rm at*
   generalize hre:roE m e (-1074)=re at*
   generalize hrx:roX m e (-1074)=same at*
   have hxm0:((lim xm).length:Int)=0↔rm=0:=by rw[q1,←qQ];exact⟨fun h=>qH.1 (List.length_eq_zero_iff.1 (by omega)),fun h=>by rw[h,qm];rfl⟩
   have hxmb:bl xm≤100001:=by rw[q1];exact Nat.le_trans (zf (yS rm)) hbl
   have lxm:=qy hxmb
   have hxeb: -2000000≤xe∧xe≤2000000:=by have:=aDU hbl hroE;omega
   have etop2:rm≠0→(if xm=0 then(0:Int)else xe+(bl xm:Int))=(bl rm:Int)+re:=fun h=>by
    have h2:=aai h
    have h3:xm≠0:=by rw[q1];exact fun e=>h (qQ.1 e)
    rw[if_neg h3,q2,q1];unfold oE;rw[if_neg h];omega
   refine z7 (fun h3=>?_) (fun h3=>?_)
   ·simp(disch:=omega)only[go_sem,h3]
    refine qb (zj s m e (by omega) (by omega)) ?_ (by simp(disch:=omega)only[go_sem,etop])
    simp(disch:=omega)only[go_sem]
    simp(disch:=omega)only[go_sem,etop]
    refine qe (fun h4=>?_) (fun h4=>?_)
    ·have hfl:zm (bl m+e) same=5:=by unfold zm;rw[h3,if_neg (by simp),if_pos (by omega)]
     have e5:((1|||4:Nat):Int)=5:=rfl
     simp(disch:=omega)only[go_sem,h4,e5]
     refine qe (fun h5=>?_) (fun h5=>?_)
     ·have hr0:rm=0:=hxm0.1 h5
      simp(disch:=omega)only[go_sem,h5]
      refine qc (by simp(disch:=omega)only[go_sem]) (by simp(disch:=omega)only[go_sem]) ⟨?_,rfl,rfl⟩
      refine hVG 0 0 0 5 (by simp[flK,hr0]) (by simp[j8,hr0]) (by simp[j9,hr0]) (by simp[jZ,hr0,hfl])
     ·have hr0:rm≠0:=fun e=>h5 (hxm0.2 e)
      have et2:=etop2 hr0
      have hxs:xs=s:=q3 hr0
      have hff:=hform hr0
      have hM:=Qm hr0 hff
      simp(disch:=omega)only[go_sem,h5]
      refine qb (zj xs xm xe (by omega) (by omega)) ?_ (by simp(disch:=omega)only[go_sem,et2])
      simp(disch:=omega)only[go_sem]
      simp(disch:=omega)only[go_sem,et2]
      refine qe (fun h6=>?_) (fun h6=>?_)
      ·have hov:∀(k mm ee:Int),k=(if ovB s mode then 1 else 2)→mm=(if ovB s mode then 9007199254740991 else 0)→ee=(if ovB s mode then 971 else 0)→AV.tu [.ag [.v (.int .i64 k),.v (.bool s),.v (.int .i64 mm),.v (.int .i64 ee)],.v (.int .i64 3)]=.tu [.ag [.v (.int .i64 ((flV s m e mode z).k)),.v (.bool ((flV s m e mode z).s)),.v (.int .i64 ((flV s m e mode z).m)),.v (.int .i64 ((flV s m e mode z).e))],.v (.int .i64 (flG s m e mode))]:=by
        rintro k mm ee rfl rfl rfl
        exact hVG _ _ _ 3 (by unfold flK;rw[if_neg hr0,if_pos h6]) (by unfold j8;rw[if_neg hr0,if_pos h6]) (by unfold j9;rw[if_neg hr0,if_pos h6]) (by unfold jZ;rw[if_pos ⟨hr0,h6⟩])
       clear hVG hform hrm hrx q3 hxs et2 hfl
       obtain rfl|rfl|rfl|rfl|rfl:mode=0∨mode=1∨mode=2∨mode=3∨mode=4:=by omega
       ·cases s
        ·simp(disch:=omega)only[go_sem,h6]
         refine qc (by simp(disch:=omega)only[go_sem]) (by simp(disch:=omega)only[go_sem]) ⟨?_,rfl,rfl⟩
         exact hov _ _ _ rfl rfl rfl
        ·simp(disch:=omega)only[go_sem,h6]
         refine qc (by simp(disch:=omega)only[go_sem]) (by simp(disch:=omega)only[go_sem]) ⟨?_,rfl,rfl⟩
         exact hov _ _ _ rfl rfl rfl
       ·cases s
        ·simp(disch:=omega)only[go_sem,h6]
         refine qb (qJ false) ?_
         simp(disch:=omega)only[go_sem]
         refine qc (by simp(disch:=omega)only[go_sem]) (by simp(disch:=omega)only[go_sem]) ⟨?_,rfl,rfl⟩
         exact hov _ _ _ rfl rfl rfl
        ·simp(disch:=omega)only[go_sem,h6]
         refine qb (qJ true) ?_
         simp(disch:=omega)only[go_sem]
         refine qc (by simp(disch:=omega)only[go_sem]) (by simp(disch:=omega)only[go_sem]) ⟨?_,rfl,rfl⟩
         exact hov _ _ _ rfl rfl rfl
       ·cases s
        ·simp(disch:=omega)only[go_sem,h6]
         refine qc (by simp(disch:=omega)only[go_sem]) (by simp(disch:=omega)only[go_sem]) ⟨?_,rfl,rfl⟩
         exact hov _ _ _ rfl rfl rfl
        ·simp(disch:=omega)only[go_sem,h6]
         refine qb (qJ true) ?_
         simp(disch:=omega)only[go_sem]
         refine qc (by simp(disch:=omega)only[go_sem]) (by simp(disch:=omega)only[go_sem]) ⟨?_,rfl,rfl⟩
         exact hov _ _ _ rfl rfl rfl
       ·cases s
        ·simp(disch:=omega)only[go_sem,h6]
         refine qb (qJ false) ?_
         simp(disch:=omega)only[go_sem]
         refine qc (by simp(disch:=omega)only[go_sem]) (by simp(disch:=omega)only[go_sem]) ⟨?_,rfl,rfl⟩
         exact hov _ _ _ rfl rfl rfl
        ·simp(disch:=omega)only[go_sem,h6]
         refine qc (by simp(disch:=omega)only[go_sem]) (by simp(disch:=omega)only[go_sem]) ⟨?_,rfl,rfl⟩
         exact hov _ _ _ rfl rfl rfl
       ·cases s
        ·simp(disch:=omega)only[go_sem,h6]
         refine qc (by simp(disch:=omega)only[go_sem]) (by simp(disch:=omega)only[go_sem]) ⟨?_,rfl,rfl⟩
         exact hov _ _ _ rfl rfl rfl
        ·simp(disch:=omega)only[go_sem,h6]
         refine qc (by simp(disch:=omega)only[go_sem]) (by simp(disch:=omega)only[go_sem]) ⟨?_,rfl,rfl⟩
         exact hov _ _ _ rfl rfl rfl
      ·simp(disch:=omega)only[go_sem,h6]
       refine qb (zj xs xm xe (by omega) (by omega)) ?_ (by simp(disch:=omega)only[go_sem,et2])
       simp(disch:=omega)only[go_sem]
       simp(disch:=omega)only[go_sem,et2]
       have hfin:∀mm:Int,mm=(flM rm re:Int)→AV.tu [.ag [.v (.int .i64 1),.v (.bool xs),.v (.int .i64 mm),.v (.int .i64 (flE rm re))],.v (.int .i64 5)]=.tu [.ag [.v (.int .i64 ((flV s m e mode z).k)),.v (.bool ((flV s m e mode z).s)),.v (.int .i64 ((flV s m e mode z).m)),.v (.int .i64 ((flV s m e mode z).e))],.v (.int .i64 (flG s m e mode))]:=by
        rintro mm rfl
        rw[hxs]
        exact hVG 1 _ _ 5 (by unfold flK;rw[if_neg hr0,if_neg (by omega)]) (by unfold j8;rw[if_neg hr0,if_neg (by omega)]) (by unfold j9;rw[if_neg hr0,if_neg (by omega)]) (by unfold jZ;rw[if_neg (by omega),hfl])
       have ek:xe-flE rm re=(((oE rm re-flE rm re).toNat:Nat):Int):=by omega
       have hk9:(oE rm re-flE rm re).toNat≤53:=by have h9:=hM;unfold flM at h9;rw[zx (fun e=>hr0 (qQ.1 e))]at h9;omega
       have hM6:flM rm re<2^53:=Nat.lt_of_lt_of_le (yd _) (Nat.pow_le_pow_right (by omega) hM)
       have eM:xm*2^(oE rm re-flE rm re).toNat=flM rm re:=by rw[q1];rfl
       generalize hkk:(oE rm re-flE rm re).toNat=kk at*
       refine qe (fun h7=>?_) (fun h7=>?_)
       ·have eE:flE rm re= -1074:=by unfold flE qC;rw[if_pos (by omega)]
        simp(disch:=omega)only[go_sem,h7]
        rw[eE]at ek hfin
        try rw[←et2]at hfin
        refine qo rfl [⟨0,[],[]⟩,⟨1,[],[]⟩,⟨2,[],[]⟩,⟨3,[2],[]⟩,⟨4,[2],[]⟩,⟨5,[2],[]⟩,⟨6,[2,5],[]⟩,⟨7,[2,5],[]⟩,⟨8,[2,5,7],[]⟩,⟨9,[2,5],[]⟩,⟨12,[2,5,7],[]⟩,⟨14,[2,5,7],[]⟩,⟨10,[2],[]⟩,⟨11,[2],[]⟩,⟨13,[],[]⟩,⟨15,[],[]⟩,⟨16,[],[]⟩] (by kernel_rfl) ?_
        simp(disch:=omega)only[go_sem]
        refine qF (zd xm kk (by omega) (by omega)) (by simp(disch:=omega)only[go_sem,ek,et2]) ?_
        rintro r hs ⟨rfl,rfl,_⟩
        refine⟨by simp[qS],?_⟩
        simp(disch:=omega)only[go_sem]
        refine qb (zC (xm*2^kk) (by rw[eM];omega)) ?_
        simp(disch:=omega)only[go_sem]
        refine qc (by simp(disch:=omega)only[go_sem]) (by simp(disch:=omega)only[go_sem]) ⟨?_,rfl,rfl⟩
        exact hfin ((xm*2^kk:Nat):Int) (by rw[eM])
       ·have eE:flE rm re=(bl rm:Int)+re-53:=by unfold flE qC;rw[if_neg (by omega)]
        simp(disch:=omega)only[go_sem,h7]
        rw[eE]at ek hfin
        try rw[←et2]at hfin
        refine qo rfl [⟨0,[],[]⟩,⟨1,[],[]⟩,⟨2,[],[]⟩,⟨3,[2],[]⟩,⟨4,[2],[]⟩,⟨5,[2],[]⟩,⟨6,[2,5],[]⟩,⟨7,[2,5],[]⟩,⟨8,[2,5,7],[]⟩,⟨9,[2,5],[]⟩,⟨12,[2,5,7],[]⟩,⟨14,[2,5,7],[]⟩,⟨10,[2],[]⟩,⟨11,[2],[]⟩,⟨13,[],[]⟩,⟨15,[],[]⟩,⟨16,[],[]⟩] (by kernel_rfl) ?_
        simp(disch:=omega)only[go_sem]
        refine qF (zd xm kk (by omega) (by omega)) (by simp(disch:=omega)only[go_sem,ek,et2]) ?_
        rintro r hs ⟨rfl,rfl,_⟩
        refine⟨by simp[qS],?_⟩
        simp(disch:=omega)only[go_sem]
        refine qb (zC (xm*2^kk) (by rw[eM];omega)) ?_
        simp(disch:=omega)only[go_sem]
        refine qc (by simp(disch:=omega)only[go_sem]) (by simp(disch:=omega)only[go_sem]) ⟨?_,rfl,rfl⟩
        exact hfin ((xm*2^kk:Nat):Int) (by rw[eM])
    ·have hfl:zm (bl m+e) same=1:=by unfold zm;rw[h3,if_neg (by simp),if_neg (by omega)]
     have e5:=(rfl:(0:Nat)=0)
     simp(disch:=omega)only[go_sem,h4]
     refine qe (fun h5=>?_) (fun h5=>?_)
     ·have hr0:rm=0:=hxm0.1 h5
      simp(disch:=omega)only[go_sem,h5]
      refine qc (by simp(disch:=omega)only[go_sem]) (by simp(disch:=omega)only[go_sem]) ⟨?_,rfl,rfl⟩
      refine hVG 0 0 0 1 (by simp[flK,hr0]) (by simp[j8,hr0]) (by simp[j9,hr0]) (by simp[jZ,hr0,hfl])
     ·have hr0:rm≠0:=fun e=>h5 (hxm0.2 e)
      have et2:=etop2 hr0
      have hxs:xs=s:=q3 hr0
      have hff:=hform hr0
      have hM:=Qm hr0 hff
      simp(disch:=omega)only[go_sem,h5]
      refine qb (zj xs xm xe (by omega) (by omega)) ?_ (by simp(disch:=omega)only[go_sem,et2])
      simp(disch:=omega)only[go_sem]
      simp(disch:=omega)only[go_sem,et2]
      refine qe (fun h6=>?_) (fun h6=>?_)
      ·have hov:∀(k mm ee:Int),k=(if ovB s mode then 1 else 2)→mm=(if ovB s mode then 9007199254740991 else 0)→ee=(if ovB s mode then 971 else 0)→AV.tu [.ag [.v (.int .i64 k),.v (.bool s),.v (.int .i64 mm),.v (.int .i64 ee)],.v (.int .i64 3)]=.tu [.ag [.v (.int .i64 ((flV s m e mode z).k)),.v (.bool ((flV s m e mode z).s)),.v (.int .i64 ((flV s m e mode z).m)),.v (.int .i64 ((flV s m e mode z).e))],.v (.int .i64 (flG s m e mode))]:=by
        rintro k mm ee rfl rfl rfl
        exact hVG _ _ _ 3 (by unfold flK;rw[if_neg hr0,if_pos h6]) (by unfold j8;rw[if_neg hr0,if_pos h6]) (by unfold j9;rw[if_neg hr0,if_pos h6]) (by unfold jZ;rw[if_pos ⟨hr0,h6⟩])
       clear hVG hform hrm hrx q3 hxs et2 hfl
       obtain rfl|rfl|rfl|rfl|rfl:mode=0∨mode=1∨mode=2∨mode=3∨mode=4:=by omega
       ·cases s
        ·simp(disch:=omega)only[go_sem,h6]
         refine qc (by simp(disch:=omega)only[go_sem]) (by simp(disch:=omega)only[go_sem]) ⟨?_,rfl,rfl⟩
         exact hov _ _ _ rfl rfl rfl
        ·simp(disch:=omega)only[go_sem,h6]
         refine qc (by simp(disch:=omega)only[go_sem]) (by simp(disch:=omega)only[go_sem]) ⟨?_,rfl,rfl⟩
         exact hov _ _ _ rfl rfl rfl
       ·cases s
        ·simp(disch:=omega)only[go_sem,h6]
         refine qb (qJ false) ?_
         simp(disch:=omega)only[go_sem]
         refine qc (by simp(disch:=omega)only[go_sem]) (by simp(disch:=omega)only[go_sem]) ⟨?_,rfl,rfl⟩
         exact hov _ _ _ rfl rfl rfl
        ·simp(disch:=omega)only[go_sem,h6]
         refine qb (qJ true) ?_
         simp(disch:=omega)only[go_sem]
         refine qc (by simp(disch:=omega)only[go_sem]) (by simp(disch:=omega)only[go_sem]) ⟨?_,rfl,rfl⟩
         exact hov _ _ _ rfl rfl rfl
       ·cases s
        ·simp(disch:=omega)only[go_sem,h6]
         refine qc (by simp(disch:=omega)only[go_sem]) (by simp(disch:=omega)only[go_sem]) ⟨?_,rfl,rfl⟩
         exact hov _ _ _ rfl rfl rfl
        ·simp(disch:=omega)only[go_sem,h6]
         refine qb (qJ true) ?_
         simp(disch:=omega)only[go_sem]
         refine qc (by simp(disch:=omega)only[go_sem]) (by simp(disch:=omega)only[go_sem]) ⟨?_,rfl,rfl⟩
         exact hov _ _ _ rfl rfl rfl
       ·cases s
        ·simp(disch:=omega)only[go_sem,h6]
         refine qb (qJ false) ?_
         simp(disch:=omega)only[go_sem]
         refine qc (by simp(disch:=omega)only[go_sem]) (by simp(disch:=omega)only[go_sem]) ⟨?_,rfl,rfl⟩
         exact hov _ _ _ rfl rfl rfl
        ·simp(disch:=omega)only[go_sem,h6]
         refine qc (by simp(disch:=omega)only[go_sem]) (by simp(disch:=omega)only[go_sem]) ⟨?_,rfl,rfl⟩
         exact hov _ _ _ rfl rfl rfl
       ·cases s
        ·simp(disch:=omega)only[go_sem,h6]
         refine qc (by simp(disch:=omega)only[go_sem]) (by simp(disch:=omega)only[go_sem]) ⟨?_,rfl,rfl⟩
         exact hov _ _ _ rfl rfl rfl
        ·simp(disch:=omega)only[go_sem,h6]
         refine qc (by simp(disch:=omega)only[go_sem]) (by simp(disch:=omega)only[go_sem]) ⟨?_,rfl,rfl⟩
         exact hov _ _ _ rfl rfl rfl
      ·simp(disch:=omega)only[go_sem,h6]
       refine qb (zj xs xm xe (by omega) (by omega)) ?_ (by simp(disch:=omega)only[go_sem,et2])
       simp(disch:=omega)only[go_sem]
       simp(disch:=omega)only[go_sem,et2]
       have hfin:∀mm:Int,mm=(flM rm re:Int)→AV.tu [.ag [.v (.int .i64 1),.v (.bool xs),.v (.int .i64 mm),.v (.int .i64 (flE rm re))],.v (.int .i64 1)]=.tu [.ag [.v (.int .i64 ((flV s m e mode z).k)),.v (.bool ((flV s m e mode z).s)),.v (.int .i64 ((flV s m e mode z).m)),.v (.int .i64 ((flV s m e mode z).e))],.v (.int .i64 (flG s m e mode))]:=by
        rintro mm rfl
        rw[hxs]
        exact hVG 1 _ _ 1 (by unfold flK;rw[if_neg hr0,if_neg (by omega)]) (by unfold j8;rw[if_neg hr0,if_neg (by omega)]) (by unfold j9;rw[if_neg hr0,if_neg (by omega)]) (by unfold jZ;rw[if_neg (by omega),hfl])
       have ek:xe-flE rm re=(((oE rm re-flE rm re).toNat:Nat):Int):=by omega
       have hk9:(oE rm re-flE rm re).toNat≤53:=by have h9:=hM;unfold flM at h9;rw[zx (fun e=>hr0 (qQ.1 e))]at h9;omega
       have hM6:flM rm re<2^53:=Nat.lt_of_lt_of_le (yd _) (Nat.pow_le_pow_right (by omega) hM)
       have eM:xm*2^(oE rm re-flE rm re).toNat=flM rm re:=by rw[q1];rfl
       generalize hkk:(oE rm re-flE rm re).toNat=kk at*
       refine qe (fun h7=>?_) (fun h7=>?_)
       ·have eE:flE rm re= -1074:=by unfold flE qC;rw[if_pos (by omega)]
        simp(disch:=omega)only[go_sem,h7]
        rw[eE]at ek hfin
        try rw[←et2]at hfin
        refine qo rfl [⟨0,[],[]⟩,⟨1,[],[]⟩,⟨2,[],[]⟩,⟨3,[2],[]⟩,⟨4,[2],[]⟩,⟨5,[2],[]⟩,⟨6,[2,5],[]⟩,⟨7,[2,5],[]⟩,⟨8,[2,5,7],[]⟩,⟨9,[2,5],[]⟩,⟨12,[2,5,7],[]⟩,⟨14,[2,5,7],[]⟩,⟨10,[2],[]⟩,⟨11,[2],[]⟩,⟨13,[],[]⟩,⟨15,[],[]⟩,⟨16,[],[]⟩] (by kernel_rfl) ?_
        simp(disch:=omega)only[go_sem]
        refine qF (zd xm kk (by omega) (by omega)) (by simp(disch:=omega)only[go_sem,ek,et2]) ?_
        rintro r hs ⟨rfl,rfl,_⟩
        refine⟨by simp[qS],?_⟩
        simp(disch:=omega)only[go_sem]
        refine qb (zC (xm*2^kk) (by rw[eM];omega)) ?_
        simp(disch:=omega)only[go_sem]
        refine qc (by simp(disch:=omega)only[go_sem]) (by simp(disch:=omega)only[go_sem]) ⟨?_,rfl,rfl⟩
        exact hfin ((xm*2^kk:Nat):Int) (by rw[eM])
       ·have eE:flE rm re=(bl rm:Int)+re-53:=by unfold flE qC;rw[if_neg (by omega)]
        simp(disch:=omega)only[go_sem,h7]
        rw[eE]at ek hfin
        try rw[←et2]at hfin
        refine qo rfl [⟨0,[],[]⟩,⟨1,[],[]⟩,⟨2,[],[]⟩,⟨3,[2],[]⟩,⟨4,[2],[]⟩,⟨5,[2],[]⟩,⟨6,[2,5],[]⟩,⟨7,[2,5],[]⟩,⟨8,[2,5,7],[]⟩,⟨9,[2,5],[]⟩,⟨12,[2,5,7],[]⟩,⟨14,[2,5,7],[]⟩,⟨10,[2],[]⟩,⟨11,[2],[]⟩,⟨13,[],[]⟩,⟨15,[],[]⟩,⟨16,[],[]⟩] (by kernel_rfl) ?_
        simp(disch:=omega)only[go_sem]
        refine qF (zd xm kk (by omega) (by omega)) (by simp(disch:=omega)only[go_sem,ek,et2]) ?_
        rintro r hs ⟨rfl,rfl,_⟩
        refine⟨by simp[qS],?_⟩
        simp(disch:=omega)only[go_sem]
        refine qb (zC (xm*2^kk) (by rw[eM];omega)) ?_
        simp(disch:=omega)only[go_sem]
        refine qc (by simp(disch:=omega)only[go_sem]) (by simp(disch:=omega)only[go_sem]) ⟨?_,rfl,rfl⟩
        exact hfin ((xm*2^kk:Nat):Int) (by rw[eM])
   ·have hfl:zm (bl m+e) same=0:=by unfold zm;rw[h3,if_pos rfl]
    have e5:=(rfl:(0:Nat)=0)
    simp(disch:=omega)only[go_sem,h3]
    refine qe (fun h5=>?_) (fun h5=>?_)
    ·have hr0:rm=0:=hxm0.1 h5
     simp(disch:=omega)only[go_sem,h5]
     refine qc (by simp(disch:=omega)only[go_sem]) (by simp(disch:=omega)only[go_sem]) ⟨?_,rfl,rfl⟩
     refine hVG 0 0 0 0 (by simp[flK,hr0]) (by simp[j8,hr0]) (by simp[j9,hr0]) (by simp[jZ,hr0,hfl])
    ·have hr0:rm≠0:=fun e=>h5 (hxm0.2 e)
     have et2:=etop2 hr0
     have hxs:xs=s:=q3 hr0
     have hff:=hform hr0
     have hM:=Qm hr0 hff
     simp(disch:=omega)only[go_sem,h5]
     refine qb (zj xs xm xe (by omega) (by omega)) ?_ (by simp(disch:=omega)only[go_sem,et2])
     simp(disch:=omega)only[go_sem]
     simp(disch:=omega)only[go_sem,et2]
     refine qe (fun h6=>?_) (fun h6=>?_)
     ·have hov:∀(k mm ee:Int),k=(if ovB s mode then 1 else 2)→mm=(if ovB s mode then 9007199254740991 else 0)→ee=(if ovB s mode then 971 else 0)→AV.tu [.ag [.v (.int .i64 k),.v (.bool s),.v (.int .i64 mm),.v (.int .i64 ee)],.v (.int .i64 3)]=.tu [.ag [.v (.int .i64 ((flV s m e mode z).k)),.v (.bool ((flV s m e mode z).s)),.v (.int .i64 ((flV s m e mode z).m)),.v (.int .i64 ((flV s m e mode z).e))],.v (.int .i64 (flG s m e mode))]:=by
       rintro k mm ee rfl rfl rfl
       exact hVG _ _ _ 3 (by unfold flK;rw[if_neg hr0,if_pos h6]) (by unfold j8;rw[if_neg hr0,if_pos h6]) (by unfold j9;rw[if_neg hr0,if_pos h6]) (by unfold jZ;rw[if_pos ⟨hr0,h6⟩])
      clear hVG hform hrm hrx q3 hxs et2 hfl
      obtain rfl|rfl|rfl|rfl|rfl:mode=0∨mode=1∨mode=2∨mode=3∨mode=4:=by omega
      ·cases s
       ·simp(disch:=omega)only[go_sem,h6]
        refine qc (by simp(disch:=omega)only[go_sem]) (by simp(disch:=omega)only[go_sem]) ⟨?_,rfl,rfl⟩
        exact hov _ _ _ rfl rfl rfl
       ·simp(disch:=omega)only[go_sem,h6]
        refine qc (by simp(disch:=omega)only[go_sem]) (by simp(disch:=omega)only[go_sem]) ⟨?_,rfl,rfl⟩
        exact hov _ _ _ rfl rfl rfl
      ·cases s
       ·simp(disch:=omega)only[go_sem,h6]
        refine qb (qJ false) ?_
        simp(disch:=omega)only[go_sem]
        refine qc (by simp(disch:=omega)only[go_sem]) (by simp(disch:=omega)only[go_sem]) ⟨?_,rfl,rfl⟩
        exact hov _ _ _ rfl rfl rfl
       ·simp(disch:=omega)only[go_sem,h6]
        refine qb (qJ true) ?_
        simp(disch:=omega)only[go_sem]
        refine qc (by simp(disch:=omega)only[go_sem]) (by simp(disch:=omega)only[go_sem]) ⟨?_,rfl,rfl⟩
        exact hov _ _ _ rfl rfl rfl
      ·cases s
       ·simp(disch:=omega)only[go_sem,h6]
        refine qc (by simp(disch:=omega)only[go_sem]) (by simp(disch:=omega)only[go_sem]) ⟨?_,rfl,rfl⟩
        exact hov _ _ _ rfl rfl rfl
       ·simp(disch:=omega)only[go_sem,h6]
        refine qb (qJ true) ?_
        simp(disch:=omega)only[go_sem]
        refine qc (by simp(disch:=omega)only[go_sem]) (by simp(disch:=omega)only[go_sem]) ⟨?_,rfl,rfl⟩
        exact hov _ _ _ rfl rfl rfl
      ·cases s
       ·simp(disch:=omega)only[go_sem,h6]
        refine qb (qJ false) ?_
        simp(disch:=omega)only[go_sem]
        refine qc (by simp(disch:=omega)only[go_sem]) (by simp(disch:=omega)only[go_sem]) ⟨?_,rfl,rfl⟩
        exact hov _ _ _ rfl rfl rfl
       ·simp(disch:=omega)only[go_sem,h6]
        refine qc (by simp(disch:=omega)only[go_sem]) (by simp(disch:=omega)only[go_sem]) ⟨?_,rfl,rfl⟩
        exact hov _ _ _ rfl rfl rfl
      ·cases s
       ·simp(disch:=omega)only[go_sem,h6]
        refine qc (by simp(disch:=omega)only[go_sem]) (by simp(disch:=omega)only[go_sem]) ⟨?_,rfl,rfl⟩
        exact hov _ _ _ rfl rfl rfl
       ·simp(disch:=omega)only[go_sem,h6]
        refine qc (by simp(disch:=omega)only[go_sem]) (by simp(disch:=omega)only[go_sem]) ⟨?_,rfl,rfl⟩
        exact hov _ _ _ rfl rfl rfl
     ·simp(disch:=omega)only[go_sem,h6]
      refine qb (zj xs xm xe (by omega) (by omega)) ?_ (by simp(disch:=omega)only[go_sem,et2])
      simp(disch:=omega)only[go_sem]
      simp(disch:=omega)only[go_sem,et2]
      have hfin:∀mm:Int,mm=(flM rm re:Int)→AV.tu [.ag [.v (.int .i64 1),.v (.bool xs),.v (.int .i64 mm),.v (.int .i64 (flE rm re))],.v (.int .i64 0)]=.tu [.ag [.v (.int .i64 ((flV s m e mode z).k)),.v (.bool ((flV s m e mode z).s)),.v (.int .i64 ((flV s m e mode z).m)),.v (.int .i64 ((flV s m e mode z).e))],.v (.int .i64 (flG s m e mode))]:=by
       rintro mm rfl
       rw[hxs]
       exact hVG 1 _ _ 0 (by unfold flK;rw[if_neg hr0,if_neg (by omega)]) (by unfold j8;rw[if_neg hr0,if_neg (by omega)]) (by unfold j9;rw[if_neg hr0,if_neg (by omega)]) (by unfold jZ;rw[if_neg (by omega),hfl])
      have ek:xe-flE rm re=(((oE rm re-flE rm re).toNat:Nat):Int):=by omega
      have hk9:(oE rm re-flE rm re).toNat≤53:=by have h9:=hM;unfold flM at h9;rw[zx (fun e=>hr0 (qQ.1 e))]at h9;omega
      have hM6:flM rm re<2^53:=Nat.lt_of_lt_of_le (yd _) (Nat.pow_le_pow_right (by omega) hM)
      have eM:xm*2^(oE rm re-flE rm re).toNat=flM rm re:=by rw[q1];rfl
      generalize hkk:(oE rm re-flE rm re).toNat=kk at*
      refine qe (fun h7=>?_) (fun h7=>?_)
      ·have eE:flE rm re= -1074:=by unfold flE qC;rw[if_pos (by omega)]
       simp(disch:=omega)only[go_sem,h7]
       rw[eE]at ek hfin
       try rw[←et2]at hfin
       refine qo rfl [⟨0,[],[]⟩,⟨1,[],[]⟩,⟨2,[],[]⟩,⟨3,[2],[]⟩,⟨4,[2],[]⟩,⟨5,[2],[]⟩,⟨6,[2,5],[]⟩,⟨7,[2,5],[]⟩,⟨8,[2,5,7],[]⟩,⟨9,[2,5],[]⟩,⟨12,[2,5,7],[]⟩,⟨14,[2,5,7],[]⟩,⟨10,[2],[]⟩,⟨11,[2],[]⟩,⟨13,[],[]⟩,⟨15,[],[]⟩,⟨16,[],[]⟩] (by kernel_rfl) ?_
       simp(disch:=omega)only[go_sem]
       refine qF (zd xm kk (by omega) (by omega)) (by simp(disch:=omega)only[go_sem,ek,et2]) ?_
       rintro r hs ⟨rfl,rfl,_⟩
       refine⟨by simp[qS],?_⟩
       simp(disch:=omega)only[go_sem]
       refine qb (zC (xm*2^kk) (by rw[eM];omega)) ?_
       simp(disch:=omega)only[go_sem]
       refine qc (by simp(disch:=omega)only[go_sem]) (by simp(disch:=omega)only[go_sem]) ⟨?_,rfl,rfl⟩
       exact hfin ((xm*2^kk:Nat):Int) (by rw[eM])
      ·have eE:flE rm re=(bl rm:Int)+re-53:=by unfold flE qC;rw[if_neg (by omega)]
       simp(disch:=omega)only[go_sem,h7]
       rw[eE]at ek hfin
       try rw[←et2]at hfin
       refine qo rfl [⟨0,[],[]⟩,⟨1,[],[]⟩,⟨2,[],[]⟩,⟨3,[2],[]⟩,⟨4,[2],[]⟩,⟨5,[2],[]⟩,⟨6,[2,5],[]⟩,⟨7,[2,5],[]⟩,⟨8,[2,5,7],[]⟩,⟨9,[2,5],[]⟩,⟨12,[2,5,7],[]⟩,⟨14,[2,5,7],[]⟩,⟨10,[2],[]⟩,⟨11,[2],[]⟩,⟨13,[],[]⟩,⟨15,[],[]⟩,⟨16,[],[]⟩] (by kernel_rfl) ?_
       simp(disch:=omega)only[go_sem]
       refine qF (zd xm kk (by omega) (by omega)) (by simp(disch:=omega)only[go_sem,ek,et2]) ?_
       rintro r hs ⟨rfl,rfl,_⟩
       refine⟨by simp[qS],?_⟩
       simp(disch:=omega)only[go_sem]
       refine qb (zC (xm*2^kk) (by rw[eM];omega)) ?_
       simp(disch:=omega)only[go_sem]
       refine qc (by simp(disch:=omega)only[go_sem]) (by simp(disch:=omega)only[go_sem]) ⟨?_,rfl,rfl⟩
       exact hfin ((xm*2^kk:Nat):Int) (by rw[eM])
  ·have hL:qC ((bl m:Int)+e)=(bl m:Int)+e-53:=by unfold qC;rw[if_neg (by omega)]
   simp(disch:=omega)only[go_sem,h2]
   have hbl:=aIp (s:=s) (e:=e) (low:=(bl m:Int)+e-53) (mode:=mode) hm
   have hroE: -1000000≤roE m e ((bl m:Int)+e-53)∧roE m e ((bl m:Int)+e-53)≤1000000:=by unfold roE;split<;>omega
   obtain⟨q1,q2⟩:=aMY (s:=s) (e:=e) (low:=(bl m:Int)+e-53) (mode:=mode) hod
   have q3:=aDO (s:=s) (m:=m) (e:=e) (low:=(bl m:Int)+e-53) (mode:=mode)
   refine qa (Z0 s m e ((bl m:Int)+e-53) mode hodd hs hmode (by omega) (by omega) (by omega)) ?_ (by simp(disch:=omega)only[go_sem,etop])
   simp(disch:=omega)only[go_sem]
   rw[hL]at hVG hform
   generalize srM s m e ((bl m:Int)+e-53) mode=xm at*
   generalize srE s m e ((bl m:Int)+e-53) mode=xe at*
   generalize oS (roS s m e ((bl m:Int)+e-53) mode) (roM s m e ((bl m:Int)+e-53) mode)=xs at*
   generalize hrm:roM s m e ((bl m:Int)+e-53) mode=rm at*
   generalize hre:roE m e ((bl m:Int)+e-53)=re at*
   generalize hrx:roX m e ((bl m:Int)+e-53)=same at*
   have hxm0:((lim xm).length:Int)=0↔rm=0:=by rw[q1,←qQ];exact⟨fun h=>qH.1 (List.length_eq_zero_iff.1 (by omega)),fun h=>by rw[h,qm];rfl⟩
   have hxmb:bl xm≤100001:=by rw[q1];exact Nat.le_trans (zf (yS rm)) hbl
   have lxm:=qy hxmb
   have hxeb: -2000000≤xe∧xe≤2000000:=by have:=aDU hbl hroE;omega
   have etop2:rm≠0→(if xm=0 then(0:Int)else xe+(bl xm:Int))=(bl rm:Int)+re:=fun h=>by
    have h2:=aai h
    have h3:xm≠0:=by rw[q1];exact fun e=>h (qQ.1 e)
    rw[if_neg h3,q2,q1];unfold oE;rw[if_neg h];omega
   refine z7 (fun h3=>?_) (fun h3=>?_)
   ·simp(disch:=omega)only[go_sem,h3]
    refine qb (zj s m e (by omega) (by omega)) ?_ (by simp(disch:=omega)only[go_sem,etop])
    simp(disch:=omega)only[go_sem]
    simp(disch:=omega)only[go_sem,etop]
    refine qe (fun h4=>?_) (fun h4=>?_)
    ·have hfl:zm (bl m+e) same=5:=by unfold zm;rw[h3,if_neg (by simp),if_pos (by omega)]
     have e5:((1|||4:Nat):Int)=5:=rfl
     simp(disch:=omega)only[go_sem,h4,e5]
     refine qe (fun h5=>?_) (fun h5=>?_)
     ·have hr0:rm=0:=hxm0.1 h5
      simp(disch:=omega)only[go_sem,h5]
      refine qc (by simp(disch:=omega)only[go_sem]) (by simp(disch:=omega)only[go_sem]) ⟨?_,rfl,rfl⟩
      refine hVG 0 0 0 5 (by simp[flK,hr0]) (by simp[j8,hr0]) (by simp[j9,hr0]) (by simp[jZ,hr0,hfl])
     ·have hr0:rm≠0:=fun e=>h5 (hxm0.2 e)
      have et2:=etop2 hr0
      have hxs:xs=s:=q3 hr0
      have hff:=hform hr0
      have hM:=Qm hr0 hff
      simp(disch:=omega)only[go_sem,h5]
      refine qb (zj xs xm xe (by omega) (by omega)) ?_ (by simp(disch:=omega)only[go_sem,et2])
      simp(disch:=omega)only[go_sem]
      simp(disch:=omega)only[go_sem,et2]
      refine qe (fun h6=>?_) (fun h6=>?_)
      ·have hov:∀(k mm ee:Int),k=(if ovB s mode then 1 else 2)→mm=(if ovB s mode then 9007199254740991 else 0)→ee=(if ovB s mode then 971 else 0)→AV.tu [.ag [.v (.int .i64 k),.v (.bool s),.v (.int .i64 mm),.v (.int .i64 ee)],.v (.int .i64 3)]=.tu [.ag [.v (.int .i64 ((flV s m e mode z).k)),.v (.bool ((flV s m e mode z).s)),.v (.int .i64 ((flV s m e mode z).m)),.v (.int .i64 ((flV s m e mode z).e))],.v (.int .i64 (flG s m e mode))]:=by
        rintro k mm ee rfl rfl rfl
        exact hVG _ _ _ 3 (by unfold flK;rw[if_neg hr0,if_pos h6]) (by unfold j8;rw[if_neg hr0,if_pos h6]) (by unfold j9;rw[if_neg hr0,if_pos h6]) (by unfold jZ;rw[if_pos ⟨hr0,h6⟩])
       clear hVG hform hrm hrx q3 hxs et2 hfl
       obtain rfl|rfl|rfl|rfl|rfl:mode=0∨mode=1∨mode=2∨mode=3∨mode=4:=by omega
       ·cases s
        ·simp(disch:=omega)only[go_sem,h6]
         refine qc (by simp(disch:=omega)only[go_sem]) (by simp(disch:=omega)only[go_sem]) ⟨?_,rfl,rfl⟩
         exact hov _ _ _ rfl rfl rfl
        ·simp(disch:=omega)only[go_sem,h6]
         refine qc (by simp(disch:=omega)only[go_sem]) (by simp(disch:=omega)only[go_sem]) ⟨?_,rfl,rfl⟩
         exact hov _ _ _ rfl rfl rfl
       ·cases s
        ·simp(disch:=omega)only[go_sem,h6]
         refine qb (qJ false) ?_
         simp(disch:=omega)only[go_sem]
         refine qc (by simp(disch:=omega)only[go_sem]) (by simp(disch:=omega)only[go_sem]) ⟨?_,rfl,rfl⟩
         exact hov _ _ _ rfl rfl rfl
        ·simp(disch:=omega)only[go_sem,h6]
         refine qb (qJ true) ?_
         simp(disch:=omega)only[go_sem]
         refine qc (by simp(disch:=omega)only[go_sem]) (by simp(disch:=omega)only[go_sem]) ⟨?_,rfl,rfl⟩
         exact hov _ _ _ rfl rfl rfl
       ·cases s
        ·simp(disch:=omega)only[go_sem,h6]
         refine qc (by simp(disch:=omega)only[go_sem]) (by simp(disch:=omega)only[go_sem]) ⟨?_,rfl,rfl⟩
         exact hov _ _ _ rfl rfl rfl
        ·simp(disch:=omega)only[go_sem,h6]
         refine qb (qJ true) ?_
         simp(disch:=omega)only[go_sem]
         refine qc (by simp(disch:=omega)only[go_sem]) (by simp(disch:=omega)only[go_sem]) ⟨?_,rfl,rfl⟩
         exact hov _ _ _ rfl rfl rfl
       ·cases s
        ·simp(disch:=omega)only[go_sem,h6]
         refine qb (qJ false) ?_
         simp(disch:=omega)only[go_sem]
         refine qc (by simp(disch:=omega)only[go_sem]) (by simp(disch:=omega)only[go_sem]) ⟨?_,rfl,rfl⟩
         exact hov _ _ _ rfl rfl rfl
        ·simp(disch:=omega)only[go_sem,h6]
         refine qc (by simp(disch:=omega)only[go_sem]) (by simp(disch:=omega)only[go_sem]) ⟨?_,rfl,rfl⟩
         exact hov _ _ _ rfl rfl rfl
       ·cases s
        ·simp(disch:=omega)only[go_sem,h6]
         refine qc (by simp(disch:=omega)only[go_sem]) (by simp(disch:=omega)only[go_sem]) ⟨?_,rfl,rfl⟩
         exact hov _ _ _ rfl rfl rfl
        ·simp(disch:=omega)only[go_sem,h6]
         refine qc (by simp(disch:=omega)only[go_sem]) (by simp(disch:=omega)only[go_sem]) ⟨?_,rfl,rfl⟩
         exact hov _ _ _ rfl rfl rfl
      ·simp(disch:=omega)only[go_sem,h6]
       refine qb (zj xs xm xe (by omega) (by omega)) ?_ (by simp(disch:=omega)only[go_sem,et2])
       simp(disch:=omega)only[go_sem]
       simp(disch:=omega)only[go_sem,et2]
       have hfin:∀mm:Int,mm=(flM rm re:Int)→AV.tu [.ag [.v (.int .i64 1),.v (.bool xs),.v (.int .i64 mm),.v (.int .i64 (flE rm re))],.v (.int .i64 5)]=.tu [.ag [.v (.int .i64 ((flV s m e mode z).k)),.v (.bool ((flV s m e mode z).s)),.v (.int .i64 ((flV s m e mode z).m)),.v (.int .i64 ((flV s m e mode z).e))],.v (.int .i64 (flG s m e mode))]:=by
        rintro mm rfl
        rw[hxs]
        exact hVG 1 _ _ 5 (by unfold flK;rw[if_neg hr0,if_neg (by omega)]) (by unfold j8;rw[if_neg hr0,if_neg (by omega)]) (by unfold j9;rw[if_neg hr0,if_neg (by omega)]) (by unfold jZ;rw[if_neg (by omega),hfl])
       have ek:xe-flE rm re=(((oE rm re-flE rm re).toNat:Nat):Int):=by omega
       have hk9:(oE rm re-flE rm re).toNat≤53:=by have h9:=hM;unfold flM at h9;rw[zx (fun e=>hr0 (qQ.1 e))]at h9;omega
       have hM6:flM rm re<2^53:=Nat.lt_of_lt_of_le (yd _) (Nat.pow_le_pow_right (by omega) hM)
       have eM:xm*2^(oE rm re-flE rm re).toNat=flM rm re:=by rw[q1];rfl
       generalize hkk:(oE rm re-flE rm re).toNat=kk at*
       refine qe (fun h7=>?_) (fun h7=>?_)
       ·have eE:flE rm re= -1074:=by unfold flE qC;rw[if_pos (by omega)]
        simp(disch:=omega)only[go_sem,h7]
        rw[eE]at ek hfin
        try rw[←et2]at hfin
        refine qo rfl [⟨0,[],[]⟩,⟨1,[],[]⟩,⟨2,[],[]⟩,⟨3,[2],[]⟩,⟨4,[2],[]⟩,⟨5,[2],[]⟩,⟨6,[2,5],[]⟩,⟨7,[2,5],[]⟩,⟨8,[2,5,7],[]⟩,⟨9,[2,5],[]⟩,⟨12,[2,5,7],[]⟩,⟨14,[2,5,7],[]⟩,⟨10,[2],[]⟩,⟨11,[2],[]⟩,⟨13,[],[]⟩,⟨15,[],[]⟩,⟨16,[],[]⟩] (by kernel_rfl) ?_
        simp(disch:=omega)only[go_sem]
        refine qF (zd xm kk (by omega) (by omega)) (by simp(disch:=omega)only[go_sem,ek,et2]) ?_
        rintro r hs ⟨rfl,rfl,_⟩
        refine⟨by simp[qS],?_⟩
        simp(disch:=omega)only[go_sem]
        refine qb (zC (xm*2^kk) (by rw[eM];omega)) ?_
        simp(disch:=omega)only[go_sem]
        refine qc (by simp(disch:=omega)only[go_sem]) (by simp(disch:=omega)only[go_sem]) ⟨?_,rfl,rfl⟩
        exact hfin ((xm*2^kk:Nat):Int) (by rw[eM])
       ·have eE:flE rm re=(bl rm:Int)+re-53:=by unfold flE qC;rw[if_neg (by omega)]
        simp(disch:=omega)only[go_sem,h7]
        rw[eE]at ek hfin
        try rw[←et2]at hfin
        refine qo rfl [⟨0,[],[]⟩,⟨1,[],[]⟩,⟨2,[],[]⟩,⟨3,[2],[]⟩,⟨4,[2],[]⟩,⟨5,[2],[]⟩,⟨6,[2,5],[]⟩,⟨7,[2,5],[]⟩,⟨8,[2,5,7],[]⟩,⟨9,[2,5],[]⟩,⟨12,[2,5,7],[]⟩,⟨14,[2,5,7],[]⟩,⟨10,[2],[]⟩,⟨11,[2],[]⟩,⟨13,[],[]⟩,⟨15,[],[]⟩,⟨16,[],[]⟩] (by kernel_rfl) ?_
        simp(disch:=omega)only[go_sem]
        refine qF (zd xm kk (by omega) (by omega)) (by simp(disch:=omega)only[go_sem,ek,et2]) ?_
        rintro r hs ⟨rfl,rfl,_⟩
        refine⟨by simp[qS],?_⟩
        simp(disch:=omega)only[go_sem]
        refine qb (zC (xm*2^kk) (by rw[eM];omega)) ?_
        simp(disch:=omega)only[go_sem]
        refine qc (by simp(disch:=omega)only[go_sem]) (by simp(disch:=omega)only[go_sem]) ⟨?_,rfl,rfl⟩
        exact hfin ((xm*2^kk:Nat):Int) (by rw[eM])
    ·have hfl:zm (bl m+e) same=1:=by unfold zm;rw[h3,if_neg (by simp),if_neg (by omega)]
     have e5:=(rfl:(0:Nat)=0)
     simp(disch:=omega)only[go_sem,h4]
     refine qe (fun h5=>?_) (fun h5=>?_)
     ·have hr0:rm=0:=hxm0.1 h5
      simp(disch:=omega)only[go_sem,h5]
      refine qc (by simp(disch:=omega)only[go_sem]) (by simp(disch:=omega)only[go_sem]) ⟨?_,rfl,rfl⟩
      refine hVG 0 0 0 1 (by simp[flK,hr0]) (by simp[j8,hr0]) (by simp[j9,hr0]) (by simp[jZ,hr0,hfl])
     ·have hr0:rm≠0:=fun e=>h5 (hxm0.2 e)
      have et2:=etop2 hr0
      have hxs:xs=s:=q3 hr0
      have hff:=hform hr0
      have hM:=Qm hr0 hff
      simp(disch:=omega)only[go_sem,h5]
      refine qb (zj xs xm xe (by omega) (by omega)) ?_ (by simp(disch:=omega)only[go_sem,et2])
      simp(disch:=omega)only[go_sem]
      simp(disch:=omega)only[go_sem,et2]
      refine qe (fun h6=>?_) (fun h6=>?_)
      ·have hov:∀(k mm ee:Int),k=(if ovB s mode then 1 else 2)→mm=(if ovB s mode then 9007199254740991 else 0)→ee=(if ovB s mode then 971 else 0)→AV.tu [.ag [.v (.int .i64 k),.v (.bool s),.v (.int .i64 mm),.v (.int .i64 ee)],.v (.int .i64 3)]=.tu [.ag [.v (.int .i64 ((flV s m e mode z).k)),.v (.bool ((flV s m e mode z).s)),.v (.int .i64 ((flV s m e mode z).m)),.v (.int .i64 ((flV s m e mode z).e))],.v (.int .i64 (flG s m e mode))]:=by
        rintro k mm ee rfl rfl rfl
        exact hVG _ _ _ 3 (by unfold flK;rw[if_neg hr0,if_pos h6]) (by unfold j8;rw[if_neg hr0,if_pos h6]) (by unfold j9;rw[if_neg hr0,if_pos h6]) (by unfold jZ;rw[if_pos ⟨hr0,h6⟩])
       clear hVG hform hrm hrx q3 hxs et2 hfl
       obtain rfl|rfl|rfl|rfl|rfl:mode=0∨mode=1∨mode=2∨mode=3∨mode=4:=by omega
       ·cases s
        ·simp(disch:=omega)only[go_sem,h6]
         refine qc (by simp(disch:=omega)only[go_sem]) (by simp(disch:=omega)only[go_sem]) ⟨?_,rfl,rfl⟩
         exact hov _ _ _ rfl rfl rfl
        ·simp(disch:=omega)only[go_sem,h6]
         refine qc (by simp(disch:=omega)only[go_sem]) (by simp(disch:=omega)only[go_sem]) ⟨?_,rfl,rfl⟩
         exact hov _ _ _ rfl rfl rfl
       ·cases s
        ·simp(disch:=omega)only[go_sem,h6]
         refine qb (qJ false) ?_
         simp(disch:=omega)only[go_sem]
         refine qc (by simp(disch:=omega)only[go_sem]) (by simp(disch:=omega)only[go_sem]) ⟨?_,rfl,rfl⟩
         exact hov _ _ _ rfl rfl rfl
        ·simp(disch:=omega)only[go_sem,h6]
         refine qb (qJ true) ?_
         simp(disch:=omega)only[go_sem]
         refine qc (by simp(disch:=omega)only[go_sem]) (by simp(disch:=omega)only[go_sem]) ⟨?_,rfl,rfl⟩
         exact hov _ _ _ rfl rfl rfl
       ·cases s
        ·simp(disch:=omega)only[go_sem,h6]
         refine qc (by simp(disch:=omega)only[go_sem]) (by simp(disch:=omega)only[go_sem]) ⟨?_,rfl,rfl⟩
         exact hov _ _ _ rfl rfl rfl
        ·simp(disch:=omega)only[go_sem,h6]
         refine qb (qJ true) ?_
         simp(disch:=omega)only[go_sem]
         refine qc (by simp(disch:=omega)only[go_sem]) (by simp(disch:=omega)only[go_sem]) ⟨?_,rfl,rfl⟩
         exact hov _ _ _ rfl rfl rfl
       ·cases s
        ·simp(disch:=omega)only[go_sem,h6]
         refine qb (qJ false) ?_
         simp(disch:=omega)only[go_sem]
         refine qc (by simp(disch:=omega)only[go_sem]) (by simp(disch:=omega)only[go_sem]) ⟨?_,rfl,rfl⟩
         exact hov _ _ _ rfl rfl rfl
        ·simp(disch:=omega)only[go_sem,h6]
         refine qc (by simp(disch:=omega)only[go_sem]) (by simp(disch:=omega)only[go_sem]) ⟨?_,rfl,rfl⟩
         exact hov _ _ _ rfl rfl rfl
       ·cases s
        ·simp(disch:=omega)only[go_sem,h6]
         refine qc (by simp(disch:=omega)only[go_sem]) (by simp(disch:=omega)only[go_sem]) ⟨?_,rfl,rfl⟩
         exact hov _ _ _ rfl rfl rfl
        ·simp(disch:=omega)only[go_sem,h6]
         refine qc (by simp(disch:=omega)only[go_sem]) (by simp(disch:=omega)only[go_sem]) ⟨?_,rfl,rfl⟩
         exact hov _ _ _ rfl rfl rfl
      ·simp(disch:=omega)only[go_sem,h6]
       refine qb (zj xs xm xe (by omega) (by omega)) ?_ (by simp(disch:=omega)only[go_sem,et2])
       simp(disch:=omega)only[go_sem]
       simp(disch:=omega)only[go_sem,et2]
       have hfin:∀mm:Int,mm=(flM rm re:Int)→AV.tu [.ag [.v (.int .i64 1),.v (.bool xs),.v (.int .i64 mm),.v (.int .i64 (flE rm re))],.v (.int .i64 1)]=.tu [.ag [.v (.int .i64 ((flV s m e mode z).k)),.v (.bool ((flV s m e mode z).s)),.v (.int .i64 ((flV s m e mode z).m)),.v (.int .i64 ((flV s m e mode z).e))],.v (.int .i64 (flG s m e mode))]:=by
        rintro mm rfl
        rw[hxs]
        exact hVG 1 _ _ 1 (by unfold flK;rw[if_neg hr0,if_neg (by omega)]) (by unfold j8;rw[if_neg hr0,if_neg (by omega)]) (by unfold j9;rw[if_neg hr0,if_neg (by omega)]) (by unfold jZ;rw[if_neg (by omega),hfl])
       have ek:xe-flE rm re=(((oE rm re-flE rm re).toNat:Nat):Int):=by omega
       have hk9:(oE rm re-flE rm re).toNat≤53:=by have h9:=hM;unfold flM at h9;rw[zx (fun e=>hr0 (qQ.1 e))]at h9;omega
       have hM6:flM rm re<2^53:=Nat.lt_of_lt_of_le (yd _) (Nat.pow_le_pow_right (by omega) hM)
       have eM:xm*2^(oE rm re-flE rm re).toNat=flM rm re:=by rw[q1];rfl
       generalize hkk:(oE rm re-flE rm re).toNat=kk at*
       refine qe (fun h7=>?_) (fun h7=>?_)
       ·have eE:flE rm re= -1074:=by unfold flE qC;rw[if_pos (by omega)]
        simp(disch:=omega)only[go_sem,h7]
        rw[eE]at ek hfin
        try rw[←et2]at hfin
        refine qo rfl [⟨0,[],[]⟩,⟨1,[],[]⟩,⟨2,[],[]⟩,⟨3,[2],[]⟩,⟨4,[2],[]⟩,⟨5,[2],[]⟩,⟨6,[2,5],[]⟩,⟨7,[2,5],[]⟩,⟨8,[2,5,7],[]⟩,⟨9,[2,5],[]⟩,⟨12,[2,5,7],[]⟩,⟨14,[2,5,7],[]⟩,⟨10,[2],[]⟩,⟨11,[2],[]⟩,⟨13,[],[]⟩,⟨15,[],[]⟩,⟨16,[],[]⟩] (by kernel_rfl) ?_
        simp(disch:=omega)only[go_sem]
        refine qF (zd xm kk (by omega) (by omega)) (by simp(disch:=omega)only[go_sem,ek,et2]) ?_
        rintro r hs ⟨rfl,rfl,_⟩
        refine⟨by simp[qS],?_⟩
        simp(disch:=omega)only[go_sem]
        refine qb (zC (xm*2^kk) (by rw[eM];omega)) ?_
        simp(disch:=omega)only[go_sem]
        refine qc (by simp(disch:=omega)only[go_sem]) (by simp(disch:=omega)only[go_sem]) ⟨?_,rfl,rfl⟩
        exact hfin ((xm*2^kk:Nat):Int) (by rw[eM])
       ·have eE:flE rm re=(bl rm:Int)+re-53:=by unfold flE qC;rw[if_neg (by omega)]
        simp(disch:=omega)only[go_sem,h7]
        rw[eE]at ek hfin
        try rw[←et2]at hfin
        refine qo rfl [⟨0,[],[]⟩,⟨1,[],[]⟩,⟨2,[],[]⟩,⟨3,[2],[]⟩,⟨4,[2],[]⟩,⟨5,[2],[]⟩,⟨6,[2,5],[]⟩,⟨7,[2,5],[]⟩,⟨8,[2,5,7],[]⟩,⟨9,[2,5],[]⟩,⟨12,[2,5,7],[]⟩,⟨14,[2,5,7],[]⟩,⟨10,[2],[]⟩,⟨11,[2],[]⟩,⟨13,[],[]⟩,⟨15,[],[]⟩,⟨16,[],[]⟩] (by kernel_rfl) ?_
        simp(disch:=omega)only[go_sem]
        refine qF (zd xm kk (by omega) (by omega)) (by simp(disch:=omega)only[go_sem,ek,et2]) ?_
        rintro r hs ⟨rfl,rfl,_⟩
        refine⟨by simp[qS],?_⟩
        simp(disch:=omega)only[go_sem]
        refine qb (zC (xm*2^kk) (by rw[eM];omega)) ?_
        simp(disch:=omega)only[go_sem]
        refine qc (by simp(disch:=omega)only[go_sem]) (by simp(disch:=omega)only[go_sem]) ⟨?_,rfl,rfl⟩
        exact hfin ((xm*2^kk:Nat):Int) (by rw[eM])
   ·have hfl:zm (bl m+e) same=0:=by unfold zm;rw[h3,if_pos rfl]
    have e5:=(rfl:(0:Nat)=0)
    simp(disch:=omega)only[go_sem,h3]
    refine qe (fun h5=>?_) (fun h5=>?_)
    ·have hr0:rm=0:=hxm0.1 h5
     simp(disch:=omega)only[go_sem,h5]
     refine qc (by simp(disch:=omega)only[go_sem]) (by simp(disch:=omega)only[go_sem]) ⟨?_,rfl,rfl⟩
     refine hVG 0 0 0 0 (by simp[flK,hr0]) (by simp[j8,hr0]) (by simp[j9,hr0]) (by simp[jZ,hr0,hfl])
    ·have hr0:rm≠0:=fun e=>h5 (hxm0.2 e)
     have et2:=etop2 hr0
     have hxs:xs=s:=q3 hr0
     have hff:=hform hr0
     have hM:=Qm hr0 hff
     simp(disch:=omega)only[go_sem,h5]
     refine qb (zj xs xm xe (by omega) (by omega)) ?_ (by simp(disch:=omega)only[go_sem,et2])
     simp(disch:=omega)only[go_sem]
     simp(disch:=omega)only[go_sem,et2]
     refine qe (fun h6=>?_) (fun h6=>?_)
     ·have hov:∀(k mm ee:Int),k=(if ovB s mode then 1 else 2)→mm=(if ovB s mode then 9007199254740991 else 0)→ee=(if ovB s mode then 971 else 0)→AV.tu [.ag [.v (.int .i64 k),.v (.bool s),.v (.int .i64 mm),.v (.int .i64 ee)],.v (.int .i64 3)]=.tu [.ag [.v (.int .i64 ((flV s m e mode z).k)),.v (.bool ((flV s m e mode z).s)),.v (.int .i64 ((flV s m e mode z).m)),.v (.int .i64 ((flV s m e mode z).e))],.v (.int .i64 (flG s m e mode))]:=by
       rintro k mm ee rfl rfl rfl
       exact hVG _ _ _ 3 (by unfold flK;rw[if_neg hr0,if_pos h6]) (by unfold j8;rw[if_neg hr0,if_pos h6]) (by unfold j9;rw[if_neg hr0,if_pos h6]) (by unfold jZ;rw[if_pos ⟨hr0,h6⟩])
      clear hVG hform hrm hrx q3 hxs et2 hfl
      obtain rfl|rfl|rfl|rfl|rfl:mode=0∨mode=1∨mode=2∨mode=3∨mode=4:=by omega
      ·cases s
       ·simp(disch:=omega)only[go_sem,h6]
        refine qc (by simp(disch:=omega)only[go_sem]) (by simp(disch:=omega)only[go_sem]) ⟨?_,rfl,rfl⟩
        exact hov _ _ _ rfl rfl rfl
       ·simp(disch:=omega)only[go_sem,h6]
        refine qc (by simp(disch:=omega)only[go_sem]) (by simp(disch:=omega)only[go_sem]) ⟨?_,rfl,rfl⟩
        exact hov _ _ _ rfl rfl rfl
      ·cases s
       ·simp(disch:=omega)only[go_sem,h6]
        refine qb (qJ false) ?_
        simp(disch:=omega)only[go_sem]
        refine qc (by simp(disch:=omega)only[go_sem]) (by simp(disch:=omega)only[go_sem]) ⟨?_,rfl,rfl⟩
        exact hov _ _ _ rfl rfl rfl
       ·simp(disch:=omega)only[go_sem,h6]
        refine qb (qJ true) ?_
        simp(disch:=omega)only[go_sem]
        refine qc (by simp(disch:=omega)only[go_sem]) (by simp(disch:=omega)only[go_sem]) ⟨?_,rfl,rfl⟩
        exact hov _ _ _ rfl rfl rfl
      ·cases s
       ·simp(disch:=omega)only[go_sem,h6]
        refine qc (by simp(disch:=omega)only[go_sem]) (by simp(disch:=omega)only[go_sem]) ⟨?_,rfl,rfl⟩
        exact hov _ _ _ rfl rfl rfl
       ·simp(disch:=omega)only[go_sem,h6]
        refine qb (qJ true) ?_
        simp(disch:=omega)only[go_sem]
        refine qc (by simp(disch:=omega)only[go_sem]) (by simp(disch:=omega)only[go_sem]) ⟨?_,rfl,rfl⟩
        exact hov _ _ _ rfl rfl rfl
      ·cases s
       ·simp(disch:=omega)only[go_sem,h6]
        refine qb (qJ false) ?_
        simp(disch:=omega)only[go_sem]
        refine qc (by simp(disch:=omega)only[go_sem]) (by simp(disch:=omega)only[go_sem]) ⟨?_,rfl,rfl⟩
        exact hov _ _ _ rfl rfl rfl
       ·simp(disch:=omega)only[go_sem,h6]
        refine qc (by simp(disch:=omega)only[go_sem]) (by simp(disch:=omega)only[go_sem]) ⟨?_,rfl,rfl⟩
        exact hov _ _ _ rfl rfl rfl
      ·cases s
       ·simp(disch:=omega)only[go_sem,h6]
        refine qc (by simp(disch:=omega)only[go_sem]) (by simp(disch:=omega)only[go_sem]) ⟨?_,rfl,rfl⟩
        exact hov _ _ _ rfl rfl rfl
       ·simp(disch:=omega)only[go_sem,h6]
        refine qc (by simp(disch:=omega)only[go_sem]) (by simp(disch:=omega)only[go_sem]) ⟨?_,rfl,rfl⟩
        exact hov _ _ _ rfl rfl rfl
     ·simp(disch:=omega)only[go_sem,h6]
      refine qb (zj xs xm xe (by omega) (by omega)) ?_ (by simp(disch:=omega)only[go_sem,et2])
      simp(disch:=omega)only[go_sem]
      simp(disch:=omega)only[go_sem,et2]
      have hfin:∀mm:Int,mm=(flM rm re:Int)→AV.tu [.ag [.v (.int .i64 1),.v (.bool xs),.v (.int .i64 mm),.v (.int .i64 (flE rm re))],.v (.int .i64 0)]=.tu [.ag [.v (.int .i64 ((flV s m e mode z).k)),.v (.bool ((flV s m e mode z).s)),.v (.int .i64 ((flV s m e mode z).m)),.v (.int .i64 ((flV s m e mode z).e))],.v (.int .i64 (flG s m e mode))]:=by
       rintro mm rfl
       rw[hxs]
       exact hVG 1 _ _ 0 (by unfold flK;rw[if_neg hr0,if_neg (by omega)]) (by unfold j8;rw[if_neg hr0,if_neg (by omega)]) (by unfold j9;rw[if_neg hr0,if_neg (by omega)]) (by unfold jZ;rw[if_neg (by omega),hfl])
      have ek:xe-flE rm re=(((oE rm re-flE rm re).toNat:Nat):Int):=by omega
      have hk9:(oE rm re-flE rm re).toNat≤53:=by have h9:=hM;unfold flM at h9;rw[zx (fun e=>hr0 (qQ.1 e))]at h9;omega
      have hM6:flM rm re<2^53:=Nat.lt_of_lt_of_le (yd _) (Nat.pow_le_pow_right (by omega) hM)
      have eM:xm*2^(oE rm re-flE rm re).toNat=flM rm re:=by rw[q1];rfl
      generalize hkk:(oE rm re-flE rm re).toNat=kk at*
      refine qe (fun h7=>?_) (fun h7=>?_)
      ·have eE:flE rm re= -1074:=by unfold flE qC;rw[if_pos (by omega)]
       simp(disch:=omega)only[go_sem,h7]
       rw[eE]at ek hfin
       try rw[←et2]at hfin
       refine qo rfl [⟨0,[],[]⟩,⟨1,[],[]⟩,⟨2,[],[]⟩,⟨3,[2],[]⟩,⟨4,[2],[]⟩,⟨5,[2],[]⟩,⟨6,[2,5],[]⟩,⟨7,[2,5],[]⟩,⟨8,[2,5,7],[]⟩,⟨9,[2,5],[]⟩,⟨12,[2,5,7],[]⟩,⟨14,[2,5,7],[]⟩,⟨10,[2],[]⟩,⟨11,[2],[]⟩,⟨13,[],[]⟩,⟨15,[],[]⟩,⟨16,[],[]⟩] (by kernel_rfl) ?_
       simp(disch:=omega)only[go_sem]
       refine qF (zd xm kk (by omega) (by omega)) (by simp(disch:=omega)only[go_sem,ek,et2]) ?_
       rintro r hs ⟨rfl,rfl,_⟩
       refine⟨by simp[qS],?_⟩
       simp(disch:=omega)only[go_sem]
       refine qb (zC (xm*2^kk) (by rw[eM];omega)) ?_
       simp(disch:=omega)only[go_sem]
       refine qc (by simp(disch:=omega)only[go_sem]) (by simp(disch:=omega)only[go_sem]) ⟨?_,rfl,rfl⟩
       exact hfin ((xm*2^kk:Nat):Int) (by rw[eM])
      ·have eE:flE rm re=(bl rm:Int)+re-53:=by unfold flE qC;rw[if_neg (by omega)]
       simp(disch:=omega)only[go_sem,h7]
       rw[eE]at ek hfin
       try rw[←et2]at hfin
       refine qo rfl [⟨0,[],[]⟩,⟨1,[],[]⟩,⟨2,[],[]⟩,⟨3,[2],[]⟩,⟨4,[2],[]⟩,⟨5,[2],[]⟩,⟨6,[2,5],[]⟩,⟨7,[2,5],[]⟩,⟨8,[2,5,7],[]⟩,⟨9,[2,5],[]⟩,⟨12,[2,5,7],[]⟩,⟨14,[2,5,7],[]⟩,⟨10,[2],[]⟩,⟨11,[2],[]⟩,⟨13,[],[]⟩,⟨15,[],[]⟩,⟨16,[],[]⟩] (by kernel_rfl) ?_
       simp(disch:=omega)only[go_sem]
       refine qF (zd xm kk (by omega) (by omega)) (by simp(disch:=omega)only[go_sem,ek,et2]) ?_
       rintro r hs ⟨rfl,rfl,_⟩
       refine⟨by simp[qS],?_⟩
       simp(disch:=omega)only[go_sem]
       refine qb (zC (xm*2^kk) (by rw[eM];omega)) ?_
       simp(disch:=omega)only[go_sem]
       refine qc (by simp(disch:=omega)only[go_sem]) (by simp(disch:=omega)only[go_sem]) ⟨?_,rfl,rfl⟩
       exact hfin ((xm*2^kk:Nat):Int) (by rw[eM])
end Go.Ab
namespace Go.Ab
open Go Go.Proofs
theorem aiR(xs:List Int)(hl:xs.length≤2^40):Con Tryz.prog 212 true [.ag [.sl xs.length (qg xs)]] [] (isA (.v (.bool (Yj xs)))):=by
 refine Con.of_aw Tryz.func212 rfl Tryz.ntmps212 (by simp) (by simp) (by simp) (W.sound ?_)
 show @W Tryz.prog 44 ⟨_⟩ ⟨fun x σ=>@za _ _ _ ⟨_⟩ _ ⟨_⟩ x σ⟩ _ _
 simp(disch:=omega)only[go_sem]
 refine qe (fun h1=>?_) (fun h1=>?_)
 ·simp(disch:=omega)only[go_sem,h1]
  refine qc (by simp(disch:=omega)only[go_sem]) (by simp(disch:=omega)only[go_sem]) ⟨?_,rfl,rfl⟩
  have:¬(xs.length≤100):=by omega
  simp[q6,Yj,this]
 ·simp(disch:=omega)only[go_sem,h1]
  refine qk (fun i:Nat=>[(1,.pt 30000000 0),(2,.v (.bool false)),(3,.v (.int .i64 i))]) (fun _=>[(30000000,.own 0 [.sl xs.length (qg xs)])]) (fun i=>i≤xs.length∧∀x∈xs.take i,0≤x∧x≤65535) (fun i=>xs.length-i) 0 ⟨by omega,by simp⟩
   (Le.lst [] _ _ rfl (by simp(disch:=omega)only[go_sem]) (by simp(disch:=omega)only[go_sem])) ?_
  rintro i ⟨hi,hx⟩
  simp(disch:=omega)only[go_sem]
  refine qe (fun h2=>?_) (fun h2=>?_)
  ·simp(disch:=omega)only[go_sem,h2]
   have hmem:xs.getD i 0∈xs:=by
    rw[List.getD_eq_getElem?_getD,List.getElem?_eq_getElem (by omega)];exact List.getElem_mem _
   have bad:¬(0≤xs.getD i 0∧xs.getD i 0≤65535)→Yj xs=false:=by
    intro hc
    unfold Yj
    have:xs.all (fun x=>decide (0≤x)&&decide (x≤65535))=false:=by
     rw[List.all_eq_false]
     refine⟨_,hmem,?_⟩
     simp only[Bool.and_eq_true,decide_eq_true_eq];exact hc
    rw[this];simp
   refine⟨by omega,by omega,?_⟩
   refine q7 (fun h3=>?_) (fun h3=>?_)
   ·simp(disch:=omega)only[go_sem,h3]
    refine⟨by omega,by omega,?_⟩
    refine qe (fun h4=>?_) (fun h4=>?_)
    ·simp(disch:=omega)only[go_sem,h4]
     rw[bad (by omega)]
     exact qq
    ·simp(disch:=omega)only[go_sem,h4]
     refine qh (i+1) [] ⟨by omega,?_⟩ (by show xs.length-(i+1)<xs.length-i;omega) rfl (by simp(disch:=omega)only[go_sem];try omega) (by simp(disch:=omega)only[go_sem])
     intro x hxx
     rw[List.take_add_one]at hxx
     rcases List.mem_append.1 hxx with h|h
     ·exact hx x h
     ·rw[List.getElem?_eq_getElem (by omega)]at h
      simp at h
      rw[List.getD_eq_getElem?_getD,List.getElem?_eq_getElem (by omega)]at h3 h4
      simp at h3 h4
      subst h
      omega
   ·simp(disch:=omega)only[go_sem,h3]
    rw[bad (by omega)]
    exact qq
  ·have:i=xs.length:=by omega
   subst this
   rw[List.take_length]at hx
   have hall:xs.all (fun x=>decide (0≤x)&&decide (x≤65535))=true:=by
    rw[List.all_eq_true]
    intro x h;have:=hx x h;simp only[Bool.and_eq_true,decide_eq_true_eq];exact this
   have e1:decide (xs.length≤100)=true:=by simp;omega
   simp(disch:=omega)only[go_sem,h2]
   refine q7 (fun h3=>?_) (fun h3=>?_)
   ·have en:((xs.length:Int)-1).toNat=xs.length-1:=by omega
    have hmem:xs.getD (xs.length-1) 0∈xs:=by
     rw[List.getD_eq_getElem?_getD,List.getElem?_eq_getElem (by omega)];exact List.getElem_mem _
    have hp:=hx _ hmem
    simp(disch:=omega)only[go_sem,h3,en]
    refine⟨by omega,by omega,?_⟩
    refine qc (by simp(disch:=omega)only[go_sem]) (by simp(disch:=omega)only[go_sem]) ⟨?_,rfl,rfl⟩
    have e2:decide (xs.length=0)=false:=by simp;intro h;subst h;simp at h3
    show AV.v (.bool _)=AV.v (.bool _)
    unfold Yj
    rw[e1,hall,e2,Bool.false_or,Bool.true_and,Bool.true_and]
    congr 2
    rw[decide_eq_decide]
    omega
   ·simp(disch:=omega)only[go_sem,h3]
    refine qc (by simp(disch:=omega)only[go_sem]) (by simp(disch:=omega)only[go_sem]) ⟨?_,rfl,rfl⟩
    have e2:decide (xs.length=0)=true:=by simp;exact List.length_eq_zero_iff.1 (by omega)
    show AV.v (.bool _)=AV.v (.bool _)
    unfold Yj
    rw[e1,hall,e2]
    simp
theorem QV(s:Bool)(xs:List Int)(hl:xs.length≤2^40):Con Tryz.prog 137 true [.ag [.v (.bool s),.sl xs.length (qg xs)]] [] (isA (.v (.bool (zU s xs)))):=by
 refine Con.of_aw Tryz.func137 rfl Tryz.ntmps137 (by simp) (by simp) (by simp) (W.sound ?_)
 show @W Tryz.prog 18 ⟨_⟩ ⟨fun x σ=>@za _ _ _ ⟨_⟩ _ ⟨_⟩ x σ⟩ _ _
 simp(disch:=omega)only[go_sem]
 refine qb (aiR xs hl) ?_
 simp(disch:=omega)only[go_sem]
 refine zY (fun h1=>?_) (fun h1=>?_)
 ·simp(disch:=omega)only[go_sem,h1]
  cases s
  ·simp(disch:=omega)only[go_sem]
   refine qc (by simp(disch:=omega)only[go_sem]) (by simp(disch:=omega)only[go_sem]) ⟨?_,rfl,rfl⟩
   simp[q6,zU,h1]
  ·simp(disch:=omega)only[go_sem]
   refine qc (by simp(disch:=omega)only[go_sem]) (by simp(disch:=omega)only[go_sem]) ⟨?_,rfl,rfl⟩
   show AV.v (.bool _)=AV.v (.bool _)
   unfold zU
   rw[h1,Bool.true_and,Bool.true_and,←decide_not]
   congr 2
   rw[decide_eq_decide]
   omega
 ·simp(disch:=omega)only[go_sem,h1]
  refine qc (by simp(disch:=omega)only[go_sem]) (by simp(disch:=omega)only[go_sem]) ⟨?_,rfl,rfl⟩
  simp[q6,zU,h1]
theorem jz(s:Bool)(xs:List Int)(e:Int)(hl:xs.length≤2^40):Con Tryz.prog 59 true [.ag [.v (.bool s),.sl xs.length (qg xs),.v (.int .i64 e)]] [] (isA (.v (.bool (dyB s xs e)))):=by
 refine Con.of_aw Tryz.func59 rfl Tryz.ntmps59 (by simp) (by simp) (by simp) (W.sound ?_)
 show @W Tryz.prog 31 ⟨_⟩ ⟨fun x σ=>@za _ _ _ ⟨_⟩ _ ⟨_⟩ x σ⟩ _ _
 simp(disch:=omega)only[go_sem]
 refine qb (QV s xs hl) ?_
 simp(disch:=omega)only[go_sem]
 refine zY (fun hw=>?_) (fun hw=>?_)
 ·have h1:=hw
  simp only[zU,Bool.and_eq_true]at h1
  obtain⟨hx,hll⟩:=Zf h1.1
  have hxs:xs=lim (vl xs).toNat:=hx
  generalize hm:(vl xs).toNat=m at*
  subst hx
  simp(disch:=omega)only[go_sem,hw]
  refine q7 (fun h2=>?_) (fun h2=>?_)
  ·simp(disch:=omega)only[go_sem,h2]
   refine qe (fun h3=>?_) (fun h3=>?_)
   ·simp(disch:=omega)only[go_sem,h3]
    refine qc (by simp(disch:=omega)only[go_sem]) (by simp(disch:=omega)only[go_sem]) ⟨?_,rfl,rfl⟩
    have a2:¬e≤3000:=by omega
    simp[q6,dyB,a2]
   ·simp(disch:=omega)only[go_sem,h3]
    refine qe (fun h4=>?_) (fun h4=>?_)
    ·simp(disch:=omega)only[go_sem,h4]
     have h0:m=0:=qH.1 (List.length_eq_zero_iff.1 (by omega))
     refine qc (by simp(disch:=omega)only[go_sem]) (by simp(disch:=omega)only[go_sem]) ⟨?_,rfl,rfl⟩
     have a1: -3000≤e:=by omega
     have a2:e≤3000:=by omega
     have a3:(lim m).length=0:=by omega
     show AV.v (.bool _)=AV.v (.bool _)
     unfold dyB
     rw[hw,hm,decide_eq_true a1,decide_eq_true a2,decide_eq_true a3,h0]
     simp
    ·simp(disch:=omega)only[go_sem,h4]
     refine qb (Qt m 0 (by omega) (by omega) (by omega)) ?_
     simp(disch:=omega)only[go_sem]
     refine qc (by simp(disch:=omega)only[go_sem]) (by simp(disch:=omega)only[go_sem]) ⟨?_,rfl,rfl⟩
     have a1: -3000≤e:=by omega
     have a2:e≤3000:=by omega
     have a3:¬(lim m).length=0:=by omega
     show AV.v (.bool _)=AV.v (.bool _)
     unfold dyB
     rw[hw,hm,decide_eq_true a1,decide_eq_true a2,decide_eq_false a3]
     simp
     omega
  ·simp(disch:=omega)only[go_sem,h2]
   refine qc (by simp(disch:=omega)only[go_sem]) (by simp(disch:=omega)only[go_sem]) ⟨?_,rfl,rfl⟩
   have a1:¬ -3000≤e:=by omega
   simp[q6,dyB,a1]
 ·simp(disch:=omega)only[go_sem,hw]
  refine qc (by simp(disch:=omega)only[go_sem]) (by simp(disch:=omega)only[go_sem]) ⟨?_,rfl,rfl⟩
  simp[q6,dyB,hw]
end Go.Ab
namespace Go.Ab
open Go Go.Proofs
theorem ZT(s:Bool)(m:Nat)(e:Int):dyB (oS s m) (lim (oM m)) (oE m e)=jD m e:=by
 unfold dyB zU jD jR
 rw[qW,Int.toNat_natCast]
 have hod:=aDT m
 have hz:=aYt s m
 by_cases h:(lim (oM m)).length≤100
 ·rw[aoq _ h,decide_eq_true h,Bool.true_and,Bool.true_and]
  by_cases h0:oM m=0
  ·have hm:m=0:=qQ.1 h0
   rw[hz h0,h0,hm]
   simp[oE,qm]
  ·have h1:oM m % 2=1:=hod.resolve_right h0
   have h2:decide ((lim (oM m)).length=0)=false:=by
    have:=Qg h0
    exact decide_eq_false (by omega)
   rw[h2,decide_eq_true h1]
   simp
 ·rw[decide_eq_false h]
  have:Yj (lim (oM m))=false:=by unfold Yj;rw[decide_eq_false h,Bool.false_and]
  rw[this];simp
theorem JQ(s:Bool)(m:Nat)(e:Int)(hl:(lim (oM m)).length≤2^40):Con Tryz.prog 139 false [.ag [.v (.bool (oS s m)),.sl (lim (oM m)).length (qg (lim (oM m))),.v (.int .i64 (oE m e))]] [] (isA (if jD m e=true then .tu [.ag [.v (.bool (oS s m)),.sl (lim (oM m)).length (qg (lim (oM m))),.v (.int .i64 (oE m e))],.v (.bool true)]else .tu [.ag [.v (.bool (false)),.sl (lim (0)).length (qg (lim (0))),.v (.int .i64 (0))],.v (.bool false)])):=by
 refine Con.frzA ?_
 have ck:=jz (oS s m) (lim (oM m)) (oE m e) hl
 rw[ZT]at ck
 cases hd:jD m e
 ·rw[hd]at ck
  rw[if_neg (by simp),qm]
  refine Con.of_w (rs:=[.cell 2 29,.tmp 3]) Tryz.func139 rfl Tryz.ntmps139 rfl ?_
  simp(disch:=omega)only[go_sem]
  refine qb (ck) ?_
  simp(disch:=omega)only[go_sem]
  exact qn
 ·rw[hd]at ck
  rw[if_pos rfl]
  refine Con.of_w (rs:=[.cell 2 29,.tmp 3]) Tryz.func139 rfl Tryz.ntmps139 rfl ?_
  simp(disch:=omega)only[go_sem]
  refine qb (ck) ?_
  simp(disch:=omega)only[go_sem]
  exact qn
def pmS(s1:Bool)(m1:Nat)(s2:Bool)(m2:Nat):Bool:=(s1 != s2)&&decide (m1*m2≠0)
theorem aje(s1:Bool)(m1:Nat)(e1:Int)(s2:Bool)(m2:Nat)(e2:Int)(h1:dyB s1 (lim m1) e1=true)(h2:dyB s2 (lim m2) e2=true):
  Con Tryz.prog 60 false [.ag [.v (.bool (s1)),.sl (lim (m1)).length (qg (lim (m1))),.v (.int .i64 (e1))],.ag [.v (.bool (s2)),.sl (lim (m2)).length (qg (lim (m2))),.v (.int .i64 (e2))]] [] (isA (if jD (m1*m2) (e1+e2)=true then .tu [.ag [.v (.bool (oS (pmS s1 m1 s2 m2) (m1*m2))),.sl (lim (oM (m1*m2))).length (qg (lim (oM (m1*m2)))),.v (.int .i64 (oE (m1*m2) (e1+e2)))],.v (.bool true)]else .tu [.ag [.v (.bool (false)),.sl (lim (0)).length (qg (lim (0))),.v (.int .i64 (0))],.v (.bool false)])):=by
 refine Con.frzA ?_
 obtain⟨n1,q1,b1,c1,d1,_,f1⟩:=jL h1
 obtain⟨n2,q2,b2,c2,d2,_,f2⟩:=jL h2
 obtain rfl:=jH q1
 obtain rfl:=jH q2
 have hM:=Nat.le_trans (yE m1 m2) (Nat.add_le_add c1 c2)
 have hl:=qy (Nat.le_trans (zf (yS _)) hM)
 have cf:=JQ (pmS s1 m1 s2 m2) (m1*m2) (e1+e2) (by omega)
 have ca:=apF s1 m1 e1 s2 m2 e2 (by omega) (by omega) (by omega) (by omega)
 have k1:=jz s1 (lim m1) e1 (by omega)
 have k2:=jz s2 (lim m2) e2 (by omega)
 rw[h1]at k1
 rw[h2]at k2
 unfold pmS at*
 cases hd:jD (m1*m2) (e1+e2)
 ·rw[hd,if_neg (by simp),qm]at cf
  rw[if_neg (by simp),qm]
  refine Con.of_w (rs:=[.cell 4 29,.tmp 5]) Tryz.func60 rfl Tryz.ntmps60 rfl ?_
  simp(disch:=omega)only[go_sem]
  refine qb (k1) ?_
  simp(disch:=omega)only[go_sem]
  refine qb (k2) ?_
  simp(disch:=omega)only[go_sem]
  refine qa (ca) ?_
  simp(disch:=omega)only[go_sem]
  refine qa (cf) ?_
  simp(disch:=omega)only[go_sem]
  exact qn
 ·rw[hd,if_pos rfl]at cf
  rw[if_pos rfl]
  refine Con.of_w (rs:=[.cell 4 29,.tmp 5]) Tryz.func60 rfl Tryz.ntmps60 rfl ?_
  simp(disch:=omega)only[go_sem]
  refine qb (k1) ?_
  simp(disch:=omega)only[go_sem]
  refine qb (k2) ?_
  simp(disch:=omega)only[go_sem]
  refine qa (ca) ?_
  simp(disch:=omega)only[go_sem]
  refine qa (cf) ?_
  simp(disch:=omega)only[go_sem]
  exact qn
end Go.Ab
namespace Go.Ab
open Go Go.Proofs
theorem apK(s1:Bool)(m1:Nat)(s2:Bool)(m2:Nat)(l1:(lim m1).length≤2^40)(l2:(lim m2).length≤2^40)(z1:m1=0→s1=false)(z2:m2=0→s2=false):
  Con Tryz.prog 158 true [.ag [.v (.bool (s1)),.sl (lim (m1)).length (qg (lim (m1)))],.ag [.v (.bool (s2)),.sl (lim (m2)).length (qg (lim (m2)))]] [] (isA (.v (.int .i64 (zE (sv s1 m1) (sv s2 m2))))):=by
 rw[aae z1 z2]
 cases s1<;>cases s2
 ·refine Con.of_w (rs:=[.tmp 4]) Tryz.func158 rfl Tryz.ntmps158 rfl ?_
  simp(disch:=omega)only[go_sem]
  refine qb (Z4 m1 m2 l1 l2) ?_
  simp(disch:=omega)only[go_sem]
  exact qq
 ·refine Con.of_w (rs:=[.tmp 4]) Tryz.func158 rfl Tryz.ntmps158 rfl ?_
  simp(disch:=omega)only[go_sem]
  exact qq
 ·refine Con.of_w (rs:=[.tmp 4]) Tryz.func158 rfl Tryz.ntmps158 rfl ?_
  simp(disch:=omega)only[go_sem]
  exact qq
 ·refine Con.of_w (rs:=[.tmp 4]) Tryz.func158 rfl Tryz.ntmps158 rfl ?_
  simp(disch:=omega)only[go_sem]
  refine qb (Z4 m2 m1 l2 l1) ?_
  simp(disch:=omega)only[go_sem]
  exact qq
theorem apG(K:Nat)(s1:Bool)(m1:Nat)(e1:Int)(s2:Bool)(m2:Nat)(e2:Int)(h1:bl m1≤4000000)(h2:bl m2≤4000000)(he1: -1000000≤e1∧e1≤1000000)(he2: -1000000≤e2∧e2≤1000000)(k1: -(K:Int)≤e1)(k2: -(K:Int)≤e2)(z1:m1=0→s1=false)(z2:m2=0→s2=false):
  Con Tryz.prog 74 true [.ag [.v (.bool (s1)),.sl (lim (m1)).length (qg (lim (m1))),.v (.int .i64 (e1))],.ag [.v (.bool (s2)),.sl (lim (m2)).length (qg (lim (m2))),.v (.int .i64 (e2))]] [] (isA (.v (.int .i64 (zE (dv K s1 m1 e1) (dv K s2 m2 e2))))):=by
 have hE:=Jg (m1:=m1) (m2:=m2) he1.1 he2.1
 have b1:=qy (Q0 (e:=e1) (E:=alE m1 e1 m2 e2) (C:=2000000) h1 (by omega))
 have b2:=qy (Q0 (e:=e2) (E:=alE m1 e1 m2 e2) (C:=2000000) h2 (by omega))
 rw[←ap8 k1 k2]
 have y1:alA m1 e1 (alE m1 e1 m2 e2)=0→s1=false:=fun h=>z1 (Qx.1 h)
 have y2:alA m2 e2 (alE m1 e1 m2 e2)=0→s2=false:=fun h=>z2 (Qx.1 h)
 refine Con.of_w (rs:=[.tmp 4]) Tryz.func74 rfl Tryz.ntmps74 rfl ?_
 simp(disch:=omega)only[go_sem]
 refine qa (Z1 s1 m1 e1 s2 m2 e2 h1 h2 he1 he2 z1 z2) ?_
 simp(disch:=omega)only[go_sem]
 refine qb (apK s1 (alA m1 e1 (alE m1 e1 m2 e2)) s2 (alA m2 e2 (alE m1 e1 m2 e2)) (by omega) (by omega) y1 y2) ?_
 simp(disch:=omega)only[go_sem]
 exact qq
theorem JW(s1:Bool)(m1:Nat)(e1:Int)(s2:Bool)(m2:Nat)(e2:Int)(h1:dyB s1 (lim m1) e1=true)(h2:dyB s2 (lim m2) e2=true):
  Con Tryz.prog 18 true [.ag [.v (.bool (s1)),.sl (lim (m1)).length (qg (lim (m1))),.v (.int .i64 (e1))],.ag [.v (.bool (s2)),.sl (lim (m2)).length (qg (lim (m2))),.v (.int .i64 (e2))]] [] (isA (.v (.int .i64 (zE (dv 3000 s1 m1 e1) (dv 3000 s2 m2 e2))))):=by
 obtain⟨n1,q1,b1,c1,d1,_,f1⟩:=jL h1
 obtain⟨n2,q2,b2,c2,d2,_,f2⟩:=jL h2
 obtain rfl:=jH q1
 obtain rfl:=jH q2
 have k1:=jz s1 (lim m1) e1 (by omega)
 have k2:=jz s2 (lim m2) e2 (by omega)
 rw[h1]at k1
 rw[h2]at k2
 refine Con.of_w (rs:=[.tmp 4]) Tryz.func18 rfl Tryz.ntmps18 rfl ?_
 simp(disch:=omega)only[go_sem]
 refine qb (k1) ?_
 simp(disch:=omega)only[go_sem]
 refine qb (k2) ?_
 simp(disch:=omega)only[go_sem]
 refine qb (apG 3000 s1 m1 e1 s2 m2 e2 (by omega) (by omega) (by omega) (by omega) (by omega) (by omega) f1 f2) ?_
 simp(disch:=omega)only[go_sem]
 exact qq
theorem aL9(s:Bool)(m:Nat)(e:Int)(h:dyB s (lim m) e=true):Con Tryz.prog 121 false [.ag [.v (.bool (s)),.sl (lim (m)).length (qg (lim (m))),.v (.int .i64 (e))]] [] (isA (.ag [.v (.bool ((!s)&&decide (m≠0))),.sl (lim (m)).length (qg (lim (m))),.v (.int .i64 (e))])):=by
 refine Con.frzA ?_
 obtain⟨n1,q1,b1,c1,d1,_,f1⟩:=jL h
 obtain rfl:=jH q1
 have k1:=jz s (lim m) e (by omega)
 rw[h]at k1
 refine Con.of_w (rs:=[.cell 2 29]) Tryz.func121 rfl Tryz.ntmps121 rfl ?_
 simp(disch:=omega)only[go_sem]
 refine qb (k1) ?_
 simp(disch:=omega)only[go_sem]
 refine qa (apD s m e (by omega)) ?_
 simp(disch:=omega)only[go_sem]
 exact qn
theorem aab(n:Int)(h: -9223372036854775808≤n∧n<9223372036854775808):Con Tryz.prog 73 false [.v (.int .i64 n)] [] (isA (.ag [.v (.bool (decide (n<0))),.sl (lim (n.natAbs)).length (qg (lim (n.natAbs)))])):=by
 refine Con.frzA ?_
 refine Con.of_w (rs:=[.cell 2 27]) Tryz.func73 rfl Tryz.ntmps73 rfl ?_
 simp(disch:=omega)only[go_sem]
 refine qa (Zk n h) ?_
 simp(disch:=omega)only[go_sem]
 exact qn
theorem aK8(e:Int):Con Tryz.prog 155 true [.v (.int .i64 e)] [] (isA (.v (.bool (decide (-12000≤e)&&decide (e≤12000))))):=by
 refine Con.of_aw Tryz.func155 rfl Tryz.ntmps155 (by simp) (by simp) (by simp) (W.sound ?_)
 show @W Tryz.prog 9 ⟨_⟩ ⟨fun x σ=>@za _ _ _ ⟨_⟩ _ ⟨_⟩ x σ⟩ _ _
 simp(disch:=omega)only[go_sem]
 repeat' first
  |simp(disch:=omega)only[go_sem, *]
  |(with_reducible refine qe (fun _=>?_) (fun _=>?_))
  |(with_reducible refine q7 (fun _=>?_) (fun _=>?_))
  |(with_reducible refine z7 (fun _=>?_) (fun _=>?_))
  |(with_reducible refine zY (fun _=>?_) (fun _=>?_))
 all_goals exact qc (by simp(disch:=omega)only[go_sem]) (by simp(disch:=omega)only[go_sem]) ⟨by simp_all[q6]<;>omega,rfl,rfl⟩
theorem aad(s:Bool)(m:Nat)(e:Int)(h:zU s (lim m)=true)(he: -12000≤e∧e≤12000):
  Con Tryz.prog 72 false [.ag [.v (.bool (s)),.sl (lim (m)).length (qg (lim (m)))],.v (.int .i64 e)] [] (isA (if jD m e=true then .tu [.ag [.v (.bool (oS s m)),.sl (lim (oM m)).length (qg (lim (oM m))),.v (.int .i64 (oE m e))],.v (.bool true)]else .tu [.ag [.v (.bool (false)),.sl (lim (0)).length (qg (lim (0))),.v (.int .i64 (0))],.v (.bool false)])):=by
 refine Con.frzA ?_
 have h':=h
 simp only[zU,Bool.and_eq_true]at h'
 obtain⟨_,hl⟩:=Zf h'.1
 have hb:=JY (m:=m)
 have hb2:=qy (Nat.le_trans (zf (yS m)) hb)
 have k1:=QV s (lim m) (by omega)
 rw[h]at k1
 have k2:=aK8 e
 rw[decide_eq_true he.1,decide_eq_true he.2]at k2
 have cf:=JQ s m e (by omega)
 cases hd:jD m e
 ·rw[hd,if_neg (by simp),qm]at cf
  rw[if_neg (by simp),qm]
  refine Con.of_w (rs:=[.cell 4 29,.tmp 5]) Tryz.func72 rfl Tryz.ntmps72 rfl ?_
  simp(disch:=omega)only[go_sem]
  refine qb (k1) ?_
  simp(disch:=omega)only[go_sem]
  refine qb (k2) ?_
  simp(disch:=omega)only[go_sem]
  refine qa (zS s m e (by omega) (by omega)) ?_
  simp(disch:=omega)only[go_sem]
  refine qa (cf) ?_
  simp(disch:=omega)only[go_sem]
  exact qn
 ·rw[hd,if_pos rfl]at cf
  rw[if_pos rfl]
  refine Con.of_w (rs:=[.cell 4 29,.tmp 5]) Tryz.func72 rfl Tryz.ntmps72 rfl ?_
  simp(disch:=omega)only[go_sem]
  refine qb (k1) ?_
  simp(disch:=omega)only[go_sem]
  refine qb (k2) ?_
  simp(disch:=omega)only[go_sem]
  refine qa (zS s m e (by omega) (by omega)) ?_
  simp(disch:=omega)only[go_sem]
  refine qa (cf) ?_
  simp(disch:=omega)only[go_sem]
  exact qn
theorem aao:tz 1=0:=Zo rfl
theorem yU:lim 1=[1]:=by rw[j7 (by omega)];simp[qm]
/-! ### Sameness-/
theorem adt(a b:Nat)(la:(lim a).length≤2^40)(lb:(lim b).length≤2^40):Con Tryz.prog 146 true [.ag [.sl (lim (a)).length (qg (lim (a)))],.ag [.sl (lim (b)).length (qg (lim (b)))]] [] (isA (.v (.bool (decide (a=b))))):=by
 refine Con.of_w (rs:=[.tmp 4]) Tryz.func146 rfl Tryz.ntmps146 rfl ?_
 simp(disch:=omega)only[go_sem]
 refine q7 (fun h1=>?_) (fun h1=>?_)
 ·simp(disch:=omega)only[go_sem,h1]
  rw[decide_eq_false (fun e=>h1 (by rw[e]))]
  exact qq
 ·have hl:(lim a).length=(lim b).length:=by omega
  simp(disch:=omega)only[go_sem,h1]
  refine qk (fun i:Nat=>[(2,.pt 40000000 0),(3,.pt 50000000 0),(5,.v (.int .i64 i))]) (fun _=>[(40000000,.own 0 [.sl (lim (a)).length (qg (lim (a)))]),(50000000,.own 0 [.sl (lim (b)).length (qg (lim (b)))])])
   (fun i=>i≤(lim a).length∧(lim a).take i=(lim b).take i) (fun i=>(lim a).length-i) 0 ⟨by omega,by simp⟩ (Le.lst [] _ _ rfl (by simp(disch:=omega)only[go_sem];try omega) (by simp(disch:=omega)only[go_sem])) ?_
  rintro i ⟨hi,ht⟩
  simp(disch:=omega)only[go_sem]
  refine qe (fun h2=>?_) (fun h2=>?_)
  ·simp(disch:=omega)only[go_sem,h2]
   refine qo rfl [⟨0,[],[]⟩,⟨1,[],[]⟩,⟨2,[1],[]⟩,⟨3,[],[]⟩,⟨4,[],[]⟩,⟨5,[1,4],[]⟩,⟨6,[1,4],[]⟩,⟨7,[1,4,6],[]⟩,⟨8,[1,4],[]⟩,⟨9,[1,4],[]⟩,⟨10,[],[]⟩] (by kernel_rfl) ?_
   simp(disch:=omega)only[go_sem]
   refine⟨by omega,by omega,by omega,by omega,?_⟩
   refine q7 (fun h3=>?_) (fun h3=>?_)
   ·simp(disch:=omega)only[go_sem,h3]
    rw[decide_eq_false (fun e=>h3 (by rw[e]))]
    exact qq
   ·simp(disch:=omega)only[go_sem,h3]
    refine qh (i+1) [] ⟨by omega,?_⟩ (by show(lim a).length-(i+1)<(lim a).length-i;omega) rfl (by simp(disch:=omega)only[go_sem];try omega) (by simp(disch:=omega)only[go_sem])
    rw[jN (l:=lim a) (by omega),jN (l:=lim b) (by omega),ht,h3]
  ·simp(disch:=omega)only[go_sem,h2]
   have:i=(lim a).length:=by omega
   subst this
   have ht2:lim a=lim b:=by
    have h4:=List.take_of_length_le (l:=lim b) (i:=(lim a).length) (by omega)
    rw[List.take_length,h4]at ht
    exact ht
   rw[decide_eq_true (jH ht2)]
   exact qq
theorem YG(s1:Bool)(m1:Nat)(s2:Bool)(m2:Nat)(l1:(lim m1).length≤2^40)(l2:(lim m2).length≤2^40):Con Tryz.prog 69 true [.ag [.v (.bool (s1)),.sl (lim (m1)).length (qg (lim (m1)))],.ag [.v (.bool (s2)),.sl (lim (m2)).length (qg (lim (m2)))]] [] (isA (.v (.bool ((s1==s2)&&decide (m1=m2))))):=by
 refine Con.of_w (rs:=[.tmp 4]) Tryz.func69 rfl Tryz.ntmps69 rfl ?_
 cases hs:(s1==s2)
 ·simp(disch:=omega)only[go_sem,hs]
  exact qq
 ·simp(disch:=omega)only[go_sem,hs]
  refine qb (adt m1 m2 l1 l2) ?_
  simp(disch:=omega)only[go_sem]
  exact qq
theorem JO(s1:Bool)(m1:Nat)(e1:Int)(s2:Bool)(m2:Nat)(e2:Int)(l1:(lim m1).length≤2^40)(l2:(lim m2).length≤2^40):Con Tryz.prog 13 true [.ag [.v (.bool (s1)),.sl (lim (m1)).length (qg (lim (m1))),.v (.int .i64 (e1))],.ag [.v (.bool (s2)),.sl (lim (m2)).length (qg (lim (m2))),.v (.int .i64 (e2))]] [] (isA (.v (.bool (decide (e1=e2)&&((s1==s2)&&decide (m1=m2)))))):=by
 cases he:decide (e1=e2)
 ·have he':¬e1=e2:=by simpa using he
  refine Con.of_w (rs:=[.tmp 4]) Tryz.func13 rfl Tryz.ntmps13 rfl ?_
  simp(disch:=omega)only[go_sem,he']
  exact qq
 ·refine Con.of_w (rs:=[.tmp 4]) Tryz.func13 rfl Tryz.ntmps13 rfl ?_
  simp(disch:=omega)only[go_sem,he]
  refine qb (YG s1 m1 s2 m2 l1 l2) ?_
  simp(disch:=omega)only[go_sem]
  exact qq
end Go.Ab
namespace Go.Ab
open Go Go.Proofs
theorem K6(e:Int)(he: -3000≤e∧e≤3000):Con Tryz.prog 17 false [.v (.int .i64 1),.v (.int .i64 e)] [] (isA (.ag [.v (.bool (false)),.sl (lim (1)).length (qg (lim (1))),.v (.int .i64 (e))])):=by
 refine Con.frzA ?_
 have hm:oM 1=1:=by unfold oM;rw[aao]
 have hE:oE 1 e=e:=by unfold oE;rw[aao,if_neg (by decide)];simp
 have hf:jD 1 e=true:=by
  unfold jD jR;rw[hm,hE,yU]
  simp only[Bool.and_eq_true,decide_eq_true_eq]
  exact⟨by decide,by omega,by omega⟩
 have c1:=aad false 1 e (by rw[yU];decide) (by omega)
 rw[if_pos hf,hm,hE]at c1
 have c0:=aab 1 (by omega)
 have e1:decide ((1:Int)<0)=false:=rfl
 have e2:(1:Int).natAbs=1:=rfl
 rw[e1,e2]at c0
 refine Con.of_aw Tryz.func17 rfl Tryz.ntmps17 (by simp) (by simp) (by simp) (W.sound ?_)
 show @W Tryz.prog 15 ⟨_⟩ ⟨fun x σ=>@za _ _ _ ⟨_⟩ _ ⟨_⟩ x σ⟩ _ _
 simp(disch:=omega)only[go_sem]
 refine qa (c0) ?_
 simp(disch:=omega)only[go_sem]
 refine qa (c1) ?_
 simp(disch:=omega)only[go_sem]
 refine qE (by simp(disch:=omega)only[go_sem]) ?_
 show qP _ 6 _=_
 rfl
theorem aEv:tz 1024=10:=yN (a:=0) (by decide)
theorem aSw:(ExV.can ⟨false,1024, -10⟩)=⟨false,1,0⟩:=by
 show(⟨oS false 1024,oM 1024,oE 1024 (-10)⟩:ExV)=_
 unfold oS oM oE
 rw[aEv];rfl
theorem aqg:(ExV.can ⟨false,1, -14⟩)=⟨false,1, -14⟩:=by
 show(⟨oS false 1,oM 1,oE 1 (-14)⟩:ExV)=_
 unfold oS oM oE
 rw[aao];rfl
theorem Yy(x:ExV)(a:Nat)(s:Bool)(e:Int)(h:x.can=⟨s,a,e⟩)(h1:(lim a).length≤100)(h2: -3000≤e∧e≤3000):x.fit=true:=by
 have e1:oM x.m=a:=congrArg ExV.m h
 have e2:oE x.m x.e=e:=congrArg ExV.e h
 unfold ExV.fit jD jR
 rw[e1,e2]
 simp only[Bool.and_eq_true,decide_eq_true_eq]
 exact⟨h1,h2⟩
theorem adL(n:Nat)(h1:n=1):Con Tryz.prog 70 false [.ag [.v (.int .i64 (n)),.sl ([ex0]).length (qz ExV.cs ([ex0]))],.v (.int .i64 (-10))] [] (isA (.tu [.ag [.v (.int .i64 (n)),.sl ([ex1]).length (qz ExV.cs ([ex1]))],.ag [.v (.bool (false)),.sl (lim (1)).length (qg (lim (1))),.v (.int .i64 (-14))],.v (.bool true)])):=by
 have c:=adK n [ex0] (-10) aD3 (by omega) (by rw[h1];rfl) (by omega) (K4 n h1) (apR n h1) (by rw[h1];decide+kernel) (by decide+kernel) (by
  rw[show aD3=[⟨⟨false,16383, -14⟩,⟨false,16385, -14⟩⟩] by decide+kernel,List.all_cons,List.all_nil]
  have t1:tz 16383=0:=Zo rfl
  have t2:tz 16385=0:=Zo rfl
  have f1:ExV.fit ⟨false,16383, -14⟩=true:=Yy _ 16383 false (-14) (by show(⟨oS false 16383,oM 16383,oE 16383 (-14)⟩:ExV)=_;unfold oS oM oE;rw[t1];rfl) (by have:=qy (m:=16383) (B:=20) (q9.2 (by decide));omega) (by omega)
  have f2:ExV.fit ⟨false,16385, -14⟩=true:=Yy _ 16385 false (-14) (by show(⟨oS false 16385,oM 16385,oE 16385 (-14)⟩:ExV)=_;unfold oS oM oE;rw[t2];rfl) (by have:=qy (m:=16385) (B:=20) (q9.2 (by decide));omega) (by omega)
  unfold SpV.fit
  rw[f1,f2];rfl)
 have eX:aeo n aD3 (-10)=[⟨false,1024, -10⟩]:=by rw[h1];decide+kernel
 have eF:jT n aD3 (-10)=⟨false,1, -14⟩:=by rw[h1];decide+kernel
 rw[eX,eF]at c
 have f1:ExV.fit ⟨false,1024, -10⟩=true:=Yy _ 1 false 0 aSw (by rw[yU];decide) (by omega)
 have f2:ExV.fit ⟨false,1, -14⟩=true:=Yy _ 1 false (-14) aqg (by rw[yU];decide) (by omega)
 rw[List.all_cons,List.all_nil,f1,f2,if_pos (by rfl),List.map_cons,List.map_nil,aSw,aqg]at c
 exact c
set_option maxRecDepth 100000 in
theorem ap3:Con Tryz.prog 14 true [] [] (isA (.v (.bool true))):=by
 obtain⟨n,hn⟩:∃n:Nat,n=1:=⟨1,rfl⟩
 have c:=adL n hn
 have en:(n:Int)=1:=by omega
 have hrow:qz ExV.cs [ex0]=[.v (.bool false),.sl 0 [],.v (.int .i64 0)]:=by
  simp[qz,ExV.cs,ex0,qm,qg]
 rw[en,hrow]at c
 have hr1:qz ExV.cs [ex1]=[.v (.bool false),.sl (lim 1).length (qg (lim 1)),.v (.int .i64 0)]:=by
  simp[qz,ExV.cs,ex1]
 rw[hr1]at c
 have cd1:=K6 0 (by omega)
 have cd2:=K6 (-9) (by omega)
 have csd:=JO false 1 0 false 1 0 (by rw[yU];decide) (by rw[yU];decide)
 rw[show(decide ((0:Int)=0)&&((false==false)&&decide ((1:Nat)=1)))=true from rfl]at csd
 have hb:∀e:Int, -3000≤e∧e≤3000→dyB false (lim 1) e=true:=fun e he=>by
  rw[yU];unfold dyB
  rw[show zU false [1]=true by decide,decide_eq_true he.1,decide_eq_true he.2];rfl
 have ccm:=JW false 1 (-14) false 1 (-9) (hb _ (by omega)) (hb _ (by omega))
 have hle:zE (dv 3000 false 1 (-14)) (dv 3000 false 1 (-9))≤0:=(yc _ _).1.2 (by
  unfold dv sv
  rw[if_neg (by simp),show(-9+((3000:Nat):Int)).toNat=(-14+((3000:Nat):Int)).toNat+5 by rfl,Int.pow_add]
  have:(0:Int)<2^(-14+((3000:Nat):Int)).toNat:=Int.pow_pos (by omega)
  generalize (2:Int)^(-14+((3000:Nat):Int)).toNat=p at*
  omega)
 have q3:decide (zE (dv 3000 false 1 (-14)) (dv 3000 false 1 (-9))≤0)=true:=decide_eq_true hle
 generalize zE (dv 3000 false 1 (-14)) (dv 3000 false 1 (-9))=C at*
 refine Con.of_aw Tryz.func14 rfl Tryz.ntmps14 (by simp) (by simp) (by simp)
  (AW.seqLe (E:=[(0,.v (.bool false))]) (H:=[]) (W.sound ?_) (AW.regSplit (E:=[(0,.v (.bool false)),(7,.ag [.v (.int .i64 1),.sl 1 [.v (.bool false),.sl 0 [],.v (.int .i64 0)]])]) (H:=[]) 3 (by simp only[List.take_succ_cons,List.take_zero];rfl) (by simp only[List.drop_succ_cons,List.drop_zero];rfl) ?_ ?_))
 ·show @W Tryz.prog 38 ⟨_⟩ ⟨_⟩ _ _
  simp(disch:=omega)only[go_sem]
  exact Le.lst [] _ _ rfl (by simp(disch:=omega)only[go_sem]) (by simp(disch:=omega)only[go_sem])
 ·simp(disch:=omega)only[go_sem]
  exact(Le.nilC 80000000 1 (zo:=3) (cs:=[.v (.bool false),.v (.slice none 0 0),.v (.int .i64 0)]) (by simp(disch:=omega)only[go_sem]) rfl).trans ((Le.frz 80000000 (z:=3) (ks:=[.v (.bool false),.sl 0 [],.v (.int .i64 0)]) (by simp(disch:=omega)only[go_sem,List.set_cons_succ,List.set_cons_zero]) rfl (by simp(disch:=omega)only[go_sem])).trans (Le.lst [] _ _ rfl (by simp(disch:=omega)only[go_sem]) (by simp(disch:=omega)only[go_sem])))
 show @Ch Tryz.prog 38 ⟨_⟩ ⟨_⟩ ⟨fun σ=>@W Tryz.prog 38 ⟨_⟩ ⟨fun x σ=>@za _ _ _ ⟨_⟩ _ ⟨_⟩ x σ⟩ σ.env σ.hp⟩ _ _
 simp(disch:=omega)only[go_sem]
 refine qa (c) ?_
 simp(disch:=omega)only[go_sem]
 refine qo rfl [⟨0,[],[]⟩,⟨1,[],[]⟩,⟨2,[],[]⟩,⟨3,[],[]⟩,⟨4,[],[]⟩,⟨5,[],[]⟩,⟨6,[],[]⟩,⟨7,[],[]⟩,⟨8,[],[]⟩,⟨9,[],[]⟩,⟨10,[],[]⟩,⟨11,[],[]⟩,⟨12,[],[]⟩,⟨13,[],[]⟩,⟨14,[],[]⟩,⟨15,[],[]⟩,⟨16,[],[]⟩,⟨17,[14,16],[]⟩,⟨18,[],[]⟩,⟨19,[],[]⟩,⟨20,[],[]⟩,⟨21,[],[]⟩,⟨22,[21],[]⟩,⟨23,[],[]⟩,⟨24,[],[]⟩,⟨25,[],[]⟩,⟨26,[],[]⟩] (by kernel_rfl) ?_
 simp(disch:=omega)only[go_sem]
 refine qa (cd1) ?_
 simp(disch:=omega)only[go_sem]
 refine qb (csd) ?_
 simp(disch:=omega)only[go_sem]
 refine qa (cd2) ?_
 simp(disch:=omega)only[go_sem]
 refine qb (ccm) ?_
 simp(disch:=omega)only[go_sem]
 simp(disch:=omega)only[go_sem,q3]
 exact qq
end Go.Ab
namespace Go.Ab
theorem ao4{s:Bool}{rm:Nat}{re:Int}(h0:rm≠0)(ht:(bl rm:Int)+re≤1024)(he:flE rm re≤oE rm re)(hr: -1074≤re):
  flB 1 s (flM rm re:Int) (flE rm re)=true∧dv 1074 s (flM rm re) (flE rm re)=dv 1074 s rm re:=by
 have h1:oM rm≠0:=fun e=>h0 (qQ.1 e)
 have h2:=aai h0
 have hoE:oE rm re=re+tz rm:=by unfold oE;rw[if_neg h0]
 have hbl:bl (flM rm re)=bl (oM rm)+(oE rm re-flE rm re).toNat:=by unfold flM;rw[zx h1]
 have hM0:flM rm re≠0:=by
  unfold flM
  exact Nat.mul_ne_zero h1 (Nat.pos_iff_ne_zero.1 (Nat.pow_pos (by omega)))
 have hE:flE rm re=if-1074>(bl rm:Int)+re-53 then-1074 else(bl rm:Int)+re-53:=rfl
 have hlt:=yd (flM rm re)
 have hge:=aqp hM0
 refine⟨?_,?_⟩
 ·have hlt2:flM rm re<2^53:=Nat.lt_of_lt_of_le hlt (Nat.pow_le_pow_right (by omega) (by split at hE<;>omega))
  by_cases c: -1074>(bl rm:Int)+re-53
  ·rw[if_pos c]at hE
   unfold flB
   rw[if_pos rfl,hE]
   simp only[Bool.and_eq_true,Bool.or_eq_true,decide_eq_true_eq,and_true]
   omega
  ·rw[if_neg c]at hE
   have hb53:bl (flM rm re)=53:=by omega
   rw[hb53]at hge
   unfold flB
   rw[if_pos rfl,hE]
   simp only[Bool.and_eq_true,Bool.or_eq_true,decide_eq_true_eq]
   omega
 ·have hE1: -1074≤flE rm re:=by rw[hE];split<;>omega
  rw[←api (s:=s) (m:=rm) (e:=re) (K:=1074) (by omega)]
  unfold dv flM
  rw[Ju]
  have e1:(oE rm re+((1074:Nat):Int)).toNat=(oE rm re-flE rm re).toNat+(flE rm re+((1074:Nat):Int)).toNat:=by omega
  rw[e1,Int.pow_add,Int.natCast_pow,Int.mul_assoc];rfl
theorem aKR(s:Bool):flB 2 s 0 0=true:=by unfold flB;simp
theorem Yx(s:Bool):flB 0 s 0 0=true:=by unfold flB;simp
theorem aK2{K:Nat}{s:Bool}{m:Nat}{e:Int}{s':Bool}{m':Nat}{e':Int}(he: -(K:Int)≤e)(he': -(K:Int)≤e')(h:dv K s m e=dv K s' m' e'):oS s m=oS s' m'∧oM m=oM m'∧oE m e=oE m' e':=by
 by_cases h0:m=0
 ·have h0':m'=0:=by rw[h0,ja]at h;exact aiJ.1 h.symm
  rw[h0,h0'];exact⟨rfl,rfl,rfl⟩
 ·obtain⟨rfl,hM,hE,h0'⟩:=aSh h0 he he' h
  refine⟨?_,hM,hE⟩
  unfold oS;rw[if_neg h0,if_neg h0']
theorem jJ{s:Bool}{m e:Int}:flB 1 s m e=true↔(-1074≤e∧e≤971)∧((4503599627370496≤m∧m≤9007199254740991)∨((1≤m∧m≤4503599627370495)∧e= -1074)):=by
 unfold flB
 rw[if_pos rfl]
 simp only[Bool.and_eq_true,Bool.or_eq_true,decide_eq_true_eq]
theorem bah{s:Bool}{m:Nat}{e:Int}(mode:Int)(z:Bool)(he: -1074≤e)(hm:bl m≤53)(ht:(bl m:Int)+e≤1024):
  flB (flV s m e mode z).k (flV s m e mode z).s (flV s m e mode z).m (flV s m e mode z).e=true∧((flV s m e mode z).k=0∨(flV s m e mode z).k=1)∧flG s m e mode=0∧
   dv 1074 (xS (flV s m e mode z).k (flV s m e mode z).s) (flV s m e mode z).m.toNat (flV s m e mode z).e=dv 1074 s m e:=by
 by_cases h0:m=0
 ·subst h0
  unfold flV flG
  rw[if_pos rfl,if_pos rfl]
  exact⟨Yx z,.inl rfl,rfl,by rw[ja];exact ja⟩
 ·have hform:=@Yb s m e mode h0
  unfold flV flG
  rw[if_neg h0,if_neg h0]
  have hlow:qC ((bl m:Int)+e)≤e:=by unfold qC;split<;>omega
  have c:qC ((bl m:Int)+e)≤e∨m=0:=.inl hlow
  have r1:roM s m e (qC ((bl m:Int)+e)) mode=m:=by unfold roM;rw[if_pos c]
  have r2:roE m e (qC ((bl m:Int)+e))=e:=by unfold roE;rw[if_pos c]
  have r3:roX m e (qC ((bl m:Int)+e))=true:=by unfold roX;rw[if_pos c]
  rw[r1,r2]at hform
  rw[r1,r2,r3]
  have nt:¬1024<(bl m:Int)+e:=by omega
  have e1:flK s mode m e=1:=by unfold flK;rw[if_neg h0,if_neg nt]
  have e2:j8 s mode m e=(flM m e:Int):=by unfold j8;rw[if_neg h0,if_neg nt]
  have e3:j9 s mode m e=flE m e:=by unfold j9;rw[if_neg h0,if_neg nt]
  have e4:jZ ((bl m:Int)+e) true m e=0:=by unfold jZ zm;rw[if_neg (by omega)];rfl
  dsimp only
  rw[e1,e2,e3,e4]
  obtain⟨f1,f2⟩:=ao4 (s:=s) h0 ht (hform h0) he
  refine⟨f1,.inr rfl,rfl,?_⟩
  rw[Int.toNat_natCast,←f2]
  unfold xS;simp
end Go.Ab
namespace Go.Ab
open Go Go.Proofs
def ExV.val(K:Nat)(x:ExV):Int:=dv K x.s x.m x.e
theorem Qb{x:ExV}(h:x.ok=true):(-3000≤x.e∧x.e≤3000)∧bl x.m≤1600∧(lim x.m).length≤100∧(x.m=0→x.s=false∧x.e=0)∧(x.m % 2=1∨x.m=0):=by
 obtain⟨m,e1,h1,h2,h3,h4,h5⟩:=jL h
 obtain rfl:=jH e1
 exact⟨h3,h2,h1,fun h0=>⟨h5 h0,by omega⟩,by omega⟩
theorem aDR{x:ExV}(h:x.ok=true):x.can=x:=by
 obtain⟨h1,h2,h3,h4,h5⟩:=Qb h
 show(⟨oS x.s x.m,oM x.m,oE x.m x.e⟩:ExV)=x
 obtain⟨s,m,e⟩:=x
 dsimp only at*
 rcases h5 with o|h0
 ·have h0:m≠0:=by omega
  have ht:=Zo o
  have g1:oS s m=s:=by unfold oS;rw[if_neg h0]
  have g2:oM m=m:=by have:=@aoe m;rw[ht]at this;simpa using this
  have g3:oE m e=e:=by unfold oE;rw[if_neg h0,ht];simp
  rw[g1,g2,g3]
 ·obtain⟨rfl,rfl⟩:=h4 h0
  rw[h0,j6];rfl
theorem aSx{x:ExV}(h:x.fit=true):x.can.ok=true:=by
 show dyB (oS x.s x.m) (lim (oM x.m)) (oE x.m x.e)=true
 rw[ZT];exact h
theorem JI:ex0.ok=true:=by show dyB false (lim 0) 0=true;rw[qm];decide
theorem aMf{K j:Nat}{x:ExV}(h: -(K:Int)≤x.e):x.val (K+j)=x.val K*2^j:=by
 unfold ExV.val dv
 have:(x.e+((K+j:Nat):Int)).toNat=(x.e+(K:Int)).toNat+j:=by omega
 rw[this,Int.pow_add,Int.mul_assoc]
theorem aN3{K:Nat}{x y:ExV}(h1:x.ok=true)(h2:y.ok=true)(k1: -(K:Int)≤x.e)(k2: -(K:Int)≤y.e)(h:x.val K=y.val K):x=y:=by
 obtain⟨g1,g2,g3⟩:=aK2 k1 k2 h
 rw[←aDR h1,←aDR h2]
 show(⟨oS x.s x.m,oM x.m,oE x.m x.e⟩:ExV)=⟨oS y.s y.m,oM y.m,oE y.m y.e⟩
 rw[g1,g2,g3]
def ExV.tel(x:ExV):ExV:=if x.fit=true then x.can else ex0
theorem Kn(x:ExV):x.tel.ok=true:=by
 unfold ExV.tel;split
 ·rename_i h;exact aSx h
 ·exact JI
theorem aac(F:FlV):Con Tryz.prog 41 false [.ag [.v (.int .i64 (F.k)),.v (.bool (F.s)),.v (.int .i64 (F.m)),.v (.int .i64 (F.e))]] []
  (isA (if(flB F.k F.s F.m F.e&&(decide (F.k=0)||decide (F.k=1)))=true then .tu [.ag [.v (.bool (oS (F.s&&decide (F.k=1)) F.m.toNat)),.sl (lim (oM F.m.toNat)).length (qg (lim (oM F.m.toNat))),.v (.int .i64 (oE F.m.toNat F.e))],.v (.bool true)]else .tu [.ag [.v (.bool (false)),.sl (lim (0)).length (qg (lim (0))),.v (.int .i64 (0))],.v (.bool false)])):=aCh F.k F.s F.m F.e
theorem apr(x y:ExV)(hx:x.ok=true)(hy:y.ok=true):Con Tryz.prog 13 true [.ag [.v (.bool (x).s),.sl (lim (x).m).length (qg (lim (x).m)),.v (.int .i64 (x).e)],.ag [.v (.bool (y).s),.sl (lim (y).m).length (qg (lim (y).m)),.v (.int .i64 (y).e)]] [] (isA (.v (.bool (decide (x=y))))):=by
 have c:=JO x.s x.m x.e y.s y.m y.e (by have:=(Qb hx).2.2.1;omega) (by have:=(Qb hy).2.2.1;omega)
 have e:(decide (x.e=y.e)&&((x.s==y.s)&&decide (x.m=y.m)))=decide (x=y):=by
  obtain⟨s,m,e⟩:=x
  obtain⟨t,n,f⟩:=y
  rw[Bool.eq_iff_iff]
  simp only[Bool.and_eq_true,decide_eq_true_eq,beq_iff_eq,ExV.mk.injEq]
  exact⟨fun⟨a,b,c⟩=>⟨b,c,a⟩,fun⟨a,b,c⟩=>⟨c,a,b⟩⟩
 rw[e]at c;exact c
theorem jX(x y:ExV)(hx:x.ok=true)(hy:y.ok=true):Con Tryz.prog 18 true [.ag [.v (.bool (x).s),.sl (lim (x).m).length (qg (lim (x).m)),.v (.int .i64 (x).e)],.ag [.v (.bool (y).s),.sl (lim (y).m).length (qg (lim (y).m)),.v (.int .i64 (y).e)]] [] (isA (.v (.int .i64 (zE (x.val 3000) (y.val 3000))))):=JW x.s x.m x.e y.s y.m y.e hx hy
/-! ### Floats that are numbers-/
def flD(F:FlV):ExV:=⟨oS (xS F.k F.s) F.m.toNat,oM F.m.toNat,oE F.m.toNat F.e⟩
theorem aD6{F:FlV}(h:flB F.k F.s F.m F.e=true):(flD F).ok=true:=by
 obtain⟨a1,a2,_⟩:=zn h
 show dyB (oS (xS F.k F.s) F.m.toNat) (lim (oM F.m.toNat)) (oE F.m.toNat F.e)=true
 rw[ZT]
 exact aer (by omega) (by omega)
theorem aR7{F:FlV}(h:flB F.k F.s F.m F.e=true): -1074≤(flD F).e∧(flD F).e≤1024:=by
 obtain⟨a1,a2,_⟩:=zn h
 have:=aef (m:=F.m.toNat) (e:=F.e) (lo:= -1074) (hi:=971) (B:=53) (q9.2 (by omega)) (by omega) (by omega) (by omega)
 exact⟨this.1,by have:=this.2;show oE _ _≤_;omega⟩
theorem aKQ{F:FlV}(h:flB F.k F.s F.m F.e=true):(flD F).val 1074=dv 1074 (xS F.k F.s) F.m.toNat F.e:=by
 obtain⟨a1,a2,_⟩:=zn h
 show dv 1074 (oS _ _) (oM _) (oE _ _)=_
 rw[api (by omega),bai]
theorem aLb(F:FlV)(h:flB F.k F.s F.m F.e=true)(hk:(decide (F.k=0)||decide (F.k=1))=true):Con Tryz.prog 41 false [.ag [.v (.int .i64 (F.k)),.v (.bool (F.s)),.v (.int .i64 (F.m)),.v (.int .i64 (F.e))]] [] (isA (.tu [.ag [.v (.bool (flD F).s),.sl (lim (flD F).m).length (qg (lim (flD F).m)),.v (.int .i64 (flD F).e)],.v (.bool true)])):=by
 have c:=aac F
 rw[h,hk,if_pos (by rfl)]at c
 exact c
theorem apV(F:FlV)(h:(flB F.k F.s F.m F.e&&(decide (F.k=0)||decide (F.k=1)))=false):Con Tryz.prog 41 false [.ag [.v (.int .i64 (F.k)),.v (.bool (F.s)),.v (.int .i64 (F.m)),.v (.int .i64 (F.e))]] [] (isA (.tu [.ag [.v (.bool (ex0).s),.sl (lim (ex0).m).length (qg (lim (ex0).m)),.v (.int .i64 (ex0).e)],.v (.bool false)])):=by
 have c:=aac F
 rw[h,if_neg (by simp)]at c
 exact c
theorem yv(x:ExV)(mode:Int)(h:x.ok=true)(hm:ac9 mode=true):Con Tryz.prog 50 true [.ag [.v (.bool (x).s),.sl (lim (x).m).length (qg (lim (x).m)),.v (.int .i64 (x).e)],.v (.int .i64 mode)] []
  (isA (.tu [.ag [.v (.int .i64 ((flV x.s x.m x.e mode false).k)),.v (.bool ((flV x.s x.m x.e mode false).s)),.v (.int .i64 ((flV x.s x.m x.e mode false).m)),.v (.int .i64 ((flV x.s x.m x.e mode false).e))],.v (.int .i64 (flG x.s x.m x.e mode)),.v (.bool true)])):=by
 have c:=Z7 x.s (lim x.m) x.e mode (by have:=(Qb h).2.2.1;omega)
 have h':dyB x.s (lim x.m) x.e=true:=h
 rw[h',hm,if_pos (by rfl),qW,Int.toNat_natCast]at c
 exact c
end Go.Ab
namespace Go.Ab
open Go Go.Proofs
/-! ### Rounding down and up-/
def rnF(s:Bool)(a b:Nat)(low mode:Int):FlV:=⟨flK s mode (rq s a b mode) low,s,j8 s mode (rq s a b mode) low,j9 s mode (rq s a b mode) low⟩
def upQ(a b:Nat):Nat:=if a % b=0 then a/b else a/b+1
def isN(F:FlV):Bool:=decide (F.k=0)||decide (F.k=1)
theorem anX(s:Bool)(a b:Nat):rq s a b 3=if s=true then upQ a b else a/b:=by
 unfold rq upQ rup
 by_cases h:a % b=0
 ·simp[h]
 ·cases s<;>simp[h]
theorem aNe(s:Bool)(a b:Nat):rq s a b 2=if s=true then a/b else upQ a b:=by
 unfold rq upQ rup
 by_cases h:a % b=0
 ·simp[h]
 ·cases s<;>simp[h]
theorem aIn(s:Bool)(a b:Nat)(mode:Int):rq s a b mode=a/b∨rq s a b mode=upQ a b:=by
 unfold rq upQ
 by_cases h:a % b=0
 ·simp[h]
 ·rw[if_neg h,if_neg h];split
  ·exact .inr rfl
  ·exact .inl rfl
theorem aYb{s:Bool}{a b:Nat}{mode:Int}(h:ovB s mode=true):rq s a b mode=a/b:=by
 unfold ovB at h
 unfold rq
 by_cases h0:a % b=0
 ·rw[if_pos h0]
 ·rw[if_neg h0]
  have:rup s (decide (a/b % 2=1)) (zE ((a % b*2:Nat):Int) (b:Int)) mode=false:=by
   unfold rup
   rcases(by simpa using h:mode=1∨(mode=2∧s=true)∨(mode=3∧s=false))with h|⟨h,h'⟩|⟨h,h'⟩
   ·rw[if_neg (by omega),if_neg (by omega),if_neg (by omega),if_neg (by omega)]
   ·rw[if_pos h,h'];rfl
   ·rw[if_neg (by omega),if_pos h,h']
  rw[this];rfl
theorem aDZ(a b:Nat):a/b≤upQ a b:=by unfold upQ;split<;>omega
def rqB(s:Bool)(a b:Nat)(low mode:Int):Prop:=rq s a b mode≠0∧1024<(bl (rq s a b mode):Int)+low
theorem aec{s:Bool}{a b:Nat}{low mode:Int}(hl: -1074≤low)(hf:rq s a b mode≠0→flE (rq s a b mode) low≤oE (rq s a b mode) low)(ht:¬rqB s a b low mode):
  flB (rnF s a b low mode).k (rnF s a b low mode).s (rnF s a b low mode).m (rnF s a b low mode).e=true∧isN (rnF s a b low mode)=true∧dv 1074 (xS (rnF s a b low mode).k (rnF s a b low mode).s) (rnF s a b low mode).m.toNat (rnF s a b low mode).e=dv 1074 s (rq s a b mode) low:=by
 unfold rnF
 unfold rqB at ht
 generalize rq s a b mode=q at*
 by_cases h0:q=0
 ·subst h0
  have e1:flK s mode 0 low=0:=by unfold flK;simp
  have e2:j8 s mode 0 low=0:=by unfold j8;simp
  have e3:j9 s mode 0 low=0:=by unfold j9;simp
  dsimp only
  rw[e1,e2,e3]
  exact⟨Yx s,rfl,by rw[ja];exact ja⟩
 ·have nt:¬1024<(bl q:Int)+low:=fun h=>ht ⟨h0,h⟩
  have e1:flK s mode q low=1:=by unfold flK;rw[if_neg h0,if_neg nt]
  have e2:j8 s mode q low=(flM q low:Int):=by unfold j8;rw[if_neg h0,if_neg nt]
  have e3:j9 s mode q low=flE q low:=by unfold j9;rw[if_neg h0,if_neg nt]
  dsimp only
  rw[e1,e2,e3]
  obtain⟨f1,f2⟩:=ao4 (s:=s) h0 (by omega) (hf h0) hl
  refine⟨f1,rfl,?_⟩
  rw[Int.toNat_natCast,←f2]
  unfold xS;simp
theorem QR{s:Bool}{a b:Nat}{low mode:Int}(ht:rqB s a b low mode):
  rnF s a b low mode=if ovB s mode=true then⟨1,s,9007199254740991,971⟩else⟨2,s,0,0⟩:=by
 obtain⟨h1,h2⟩:=ht
 simp only[rnF,flK,j8,j9,if_neg h1,if_pos h2]
 cases ovB s mode<;>rfl
theorem aIq{s:Bool}{a b:Nat}{low mode:Int}(hl: -1074≤low)(hf:rq s a b mode≠0→flE (rq s a b mode) low≤oE (rq s a b mode) low):
  flB (rnF s a b low mode).k (rnF s a b low mode).s (rnF s a b low mode).m (rnF s a b low mode).e=true:=by
 by_cases h:rqB s a b low mode
 ·rw[QR h]
  cases ovB s mode<;>cases s<;>decide
 ·exact(aec hl hf h).1
theorem an0{s:Bool}{a b:Nat}{low m m':Int}(h:rq s a b m=rq s a b m')(ht:¬rqB s a b low m):rnF s a b low m=rnF s a b low m':=by
 unfold rqB at ht
 unfold rnF
 rw[←h]
 generalize rq s a b m=q at*
 unfold flK j8 j9
 by_cases h0:q=0
 ·simp only[if_pos h0]
 ·have nt:¬1024<(bl q:Int)+low:=fun h=>ht ⟨h0,h⟩
  simp only[if_neg h0,if_neg nt]
theorem aeb{s:Bool}{a b:Nat}{low m m':Int}(h:rq s a b m≤rq s a b m')(hb:rqB s a b low m):rqB s a b low m':=by
 have:=zf h
 unfold rqB at*;omega
theorem aNg(s:Bool)(a b:Nat)(low mode:Int):rnF s a b low mode=rnF s a b low 3∨rnF s a b low mode=rnF s a b low 2:=by
 have hd:=anX s a b
 have hu:=aNe s a b
 have hle:=aDZ a b
 by_cases hb:rqB s a b low mode
 ·rw[QR hb]
  cases ho:ovB s mode
  ·cases s
   ·right
    have:rq false a b mode≤rq false a b 2:=by rw[hu];rcases aIn false a b mode with h|h<;>rw[h]<;>simp<;>omega
    rw[QR (aeb this hb)];rfl
   ·left
    have:rq true a b mode≤rq true a b 3:=by rw[hd];rcases aIn true a b mode with h|h<;>rw[h]<;>simp<;>omega
    rw[QR (aeb this hb)];rfl
  ·have hq:=aYb (a:=a) (b:=b) ho
   cases s
   ·left
    rw[QR (aeb (by rw[hq,hd];simp) hb)];rfl
   ·right
    rw[QR (aeb (by rw[hq,hu];simp) hb)];rfl
 ·rcases aIn s a b mode with h|h<;>cases s
  ·exact .inl (an0 (by rw[h,hd];simp) hb)
  ·exact .inr (an0 (by rw[h,hu];simp) hb)
  ·exact .inr (an0 (by rw[h,hu];simp) hb)
  ·exact .inl (an0 (by rw[h,hd];simp) hb)
end Go.Ab
namespace Go.Ab
def stk(A B:Nat):Nat:=2*(A/B)+(if A % B=0 then 0 else 1)
end Go.Ab
namespace Go.Ab
open Go Go.Proofs
def quK(N D:Nat):Int:=58-((bl N:Int)-(bl D:Int))
def quA(N D:Nat):Nat:=N*2^(quK N D).toNat
def quB(N D:Nat):Nat:=D*2^(-quK N D).toNat
def quQ(N D:Nat):Nat:=stk (quA N D) (quB N D)
def quT(N D:Nat):Int:=if quB N D*2^58≤quA N D then(bl N:Int)-(bl D:Int)+1 else(bl N:Int)-(bl D:Int)
end Go.Ab
namespace Go.Ab
open Go Go.Proofs
end Go.Ab
namespace Go.Ab
open Go Go.Proofs
def dvV(k1:Int)(s1:Bool)(m1 e1 k2:Int)(s2:Bool)(m2 e2 mode:Int):FlV:=
 if k1=3∨k2=3∨(k1=k2∧k1≠1)then⟨3,false,0,0⟩else if k1=2 then⟨2,s1 != s2,0,0⟩else if k2=2∨k1=0 then⟨0,s1 != s2,0,0⟩else if k2=0 then⟨2,s1 != s2,0,0⟩
  else flV (s1 != s2) (quQ m1.toNat m2.toNat) (-quK m1.toNat m2.toNat-1+(e1-e2)) mode false
def dvG(k1:Int)(s1:Bool)(m1 e1 k2:Int)(s2:Bool)(m2 e2 mode:Int):Int:=
 if k1=3∨k2=3 then 0 else if k1=k2∧k1≠1 then 16 else if k1=2∨k2=2∨k1=0 then 0 else if k2=0 then 8
  else flG (s1 != s2) (quQ m1.toNat m2.toNat) (-quK m1.toNat m2.toNat-1+(e1-e2)) mode
end Go.Ab
namespace Go.Ab
open Go Go.Proofs
/-! ### A quotient,rounded down and up-/
section
variable {V U:FlV}(h1:flB V.k V.s V.m V.e=true)(h2:flB U.k U.s U.m U.e=true)(k1:V.k=0∨V.k=1)(k2:U.k=1)
include h1 h2 k1 k2
end
end Go.Ab
