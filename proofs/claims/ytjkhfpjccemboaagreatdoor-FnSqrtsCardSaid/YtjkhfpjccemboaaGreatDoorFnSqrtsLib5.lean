/- What the proof of this claim stands on: the walks of the functions and the plain laws, part 5. -/
import Derived.Test.YtjkhfpjccemboaaGreatDoorFnSqrtsLib4
set_option linter.unusedVariables false
set_option linter.unusedSimpArgs false
namespace Go.Ab
open Go Go.Proofs
theorem KT(l:List ExV)(h0:0<l.length)(hl:l.length≤1000)(hb:gbd (-400000) 400000 l):Con Tryz.prog 176 false [.rf 10000000 0 l.length,.fn 105 []] [.own 3 (qA ExV.cs l)] (fun r hs bs=>r=.ag [.v (.bool (zK l).s),.sl (lim (zK l).m).length (qg (lim (zK l).m)),.v (.int .i64 (zK l).e)]∧hs=[]∧bs=[.own 3 (qA ExV.cs l)]):=by
 have hc0:=jw (l:=l) (i:=0) h0
 have q1:decide ((l.length:Int)<1)=false:=decide_eq_false (by omega)
 refine Con.of_aw Tryz.func176 rfl Tryz.ntmps176 (by simp) (by simp) (by simp) (W.sound ?_)
 show @W Tryz.prog 33 ⟨_⟩ ⟨fun x σ=>@qV _ _ _ ⟨_⟩ _ ⟨_⟩ x σ⟩ _ _
 simp(disch:=omega)only[go_sem,q1,hc0]
 refine⟨by omega,by omega,?_⟩
 refine qj (fun x:Nat×ExV=>[(0,.rf 10000000 0 l.length),(1,.fn 105 []),(4,.pt 1 0),(5,.pt 0 0),(6,.v (.int .i64 x.1))])
  (fun x=>[(0,.own 0 [.v (.bool x.2.s),.sl (lim x.2.m).length (qg (lim x.2.m)),.v (.int .i64 x.2.e)]),(1,.own 0 [.v (.bool false),.v (.slice none 0 0),.v (.int .i64 0)]),(10000000,.own 3 (qA ExV.cs l))])
  (fun x=>1≤x.1∧x.1≤l.length∧x.2=((l.take x.1).drop 1).foldl Qh (l.getD 0 ex0)) (fun x=>l.length-x.1) (1,l.getD 0 ex0) ⟨by omega,by omega,by simp⟩
  (Le.lst [(0,70000000),(1,60000000)] _ _ rfl (by simp(disch:=omega)only[go_sem]) (by simp(disch:=omega)only[go_sem])) ?_
 rintro⟨i,m⟩ ⟨h1,hi,hm⟩
 dsimp only at h1 hi hm ⊢
 have hmb:m.bd (-400000) 400000:=by
  rw[hm];exact Qz Yl _ _ (zM hb h0) (fun x hx=>hb x (List.mem_of_mem_take (List.mem_of_mem_drop hx)))
 simp(disch:=omega)only[go_sem]
 refine qe (fun h2=>?_) (fun h2=>?_)
 ·have hi2:i<l.length:=by omega
  have hci:=jw (l:=l) (i:=i) hi2
  have hs:Qh m (l.getD i ex0)=((l.take (i+1)).drop 1).foldl Qh (l.getD 0 ex0):=by
   rw[jP h1 hi2,List.foldl_append,←hm];rfl
  simp(disch:=omega)only[go_sem,h2]
  refine qn rfl [⟨0,[],[]⟩,⟨1,[],[]⟩,⟨2,[],[]⟩,⟨3,[],[]⟩,⟨4,[],[]⟩,⟨5,[4],[]⟩,⟨6,[],[]⟩,⟨7,[],[]⟩] (by kernel_rfl) ?_
  have hg:qp Tryz.prog 105=True:=by simp(disch:=omega)only[go_sem]
  simp(disch:=omega)only[go_sem,hci,hg]
  refine⟨by omega,by omega,?_⟩
  refine qc (Zh (l.getD i ex0) m (zM hb hi2) hmb) ?_
  simp(disch:=omega)only[go_sem]
  generalize l.getD i ex0=y at*
  refine qe (fun h3=>?_) (fun h3=>?_)
  ·simp(disch:=omega)only[go_sem,h3,hci]
   have:Qh m y=y:=if_pos h3
   refine⟨by omega,by omega,qh (i+1,y) [] ⟨by show 1≤i+1;omega,by show i+1≤_;omega,this▸hs⟩ (by show l.length-(i+1)<l.length-i;omega) rfl (by simp(disch:=omega)only[go_sem];try omega) (by simp(disch:=omega)only[go_sem])⟩
  ·simp(disch:=omega)only[go_sem,h3]
   have:Qh m y=m:=if_neg h3
   refine qh (i+1,m) [] ⟨by show 1≤i+1;omega,by show i+1≤_;omega,this▸hs⟩ (by show l.length-(i+1)<l.length-i;omega) rfl (by simp(disch:=omega)only[go_sem];try omega) (by simp(disch:=omega)only[go_sem])
 ·simp(disch:=omega)only[go_sem,h2]
  have:i=l.length:=by omega
  subst this
  rw[List.take_length]at hm
  subst hm
  refine qm [] [] [.own 3 (qA ExV.cs l)] [.ag [.v (.bool (zK l).s),.sl (lim (zK l).m).length (qg (lim (zK l).m)),.v (.int .i64 (zK l).e)]] rfl (by simp(disch:=omega)only[go_sem,zK]) (by simp(disch:=omega)only[go_sem]) (by simp) (by simp) ⟨rfl,rfl,rfl⟩
theorem KS(l:List ExV)(h0:0<l.length)(hl:l.length≤1000)(hb:gbd (-400000) 400000 l):Con Tryz.prog 93 false [.rf 10000000 0 l.length] [.own 3 (qA ExV.cs l)] (fun r hs bs=>r=.ag [.v (.bool (zK l).s),.sl (lim (zK l).m).length (qg (lim (zK l).m)),.v (.int .i64 (zK l).e)]∧hs=[]∧bs=[.own 3 (qA ExV.cs l)]):=by
 refine Con.of_aw Tryz.func93 rfl Tryz.ntmps93 (by simp) (by simp) (by simp) (W.sound ?_)
 show @W Tryz.prog 5 ⟨_⟩ ⟨fun x σ=>@qV _ _ _ ⟨_⟩ _ ⟨_⟩ x σ⟩ _ _
 simp(disch:=omega)only[go_sem]
 refine zk false [10000000] (KT l h0 hl hb) (by simp(disch:=omega)only[go_sem]) (by simp(disch:=omega)only[go_sem]) rfl (zh (z:=3) (cs:=qA ExV.cs l) (by simp(disch:=omega)only[go_sem]) (by simp(disch:=omega)only[go_sem])) (by intro n hn;exact⟨_,List.mem_cons_self ..,by rw[List.mem_singleton.1 hn];rfl⟩) ?_
 rintro r hs bs ⟨rfl,rfl,rfl⟩-
 refine⟨by simp[qK],?_⟩
 simp(disch:=omega)only[go_sem]
 refine qm [] [] [.own 3 (qA ExV.cs l)] [.ag [.v (.bool (zK l).s),.sl (lim (zK l).m).length (qg (lim (zK l).m)),.v (.int .i64 (zK l).e)]] rfl (by simp(disch:=omega)only[go_sem]) (by simp(disch:=omega)only[go_sem]) (by simp) (by simp) ⟨rfl,rfl,rfl⟩
def ajq(n:Nat)(l:List ExV)(j k:Nat):ExV:=(List.range k).foldl (fun s i=>s.plus (l.getD (i*n+j) ex0).abs) ex0
theorem apX(n:Nat)(l:List ExV)(j k:Nat):ajq n l j (k+1)=(ajq n l j k).plus (l.getD (k*n+j) ex0).abs:=by
 unfold ajq;rw[List.range_succ,List.foldl_append,List.foldl_cons,List.foldl_nil]
theorem apY{lo hi:Int}{n:Nat}{l:List ExV}{j k:Nat}(hj:j<n)(hk:k≤n)(hl:l.length=n*n)(hb:gbd lo hi l)(h0:lo≤0∧0≤hi):(ajq n l j k).bd lo (hi+k):=
 aee _ h0 k fun t ht=>ExV.abs_bd (zM hb (by rw[hl];exact Qm (by omega) hj))
def yo(n:Nat)(l:List ExV)(k:Nat):ExV:=(List.range k).foldl (fun s j=>zK [s,ajq n l j n]) ex0
theorem JL(n:Nat)(l:List ExV)(k:Nat):yo n l (k+1)=zK [yo n l k,ajq n l k n]:=by
 unfold yo;rw[List.range_succ,List.foldl_append,List.foldl_cons,List.foldl_nil]
theorem Yh{lo hi:Int}{n:Nat}{l:List ExV}(hl:l.length=n*n)(hb:gbd lo hi l)(h0:lo≤0∧0≤hi):∀k,k≤n→(yo n l k).bd lo (hi+n)
 |0,_=>aeg h0.1 (by omega)
 |k+1,h=>by
  rw[JL]
  refine Zd (fun x hx=>?_) (by simp)
  simp only[List.mem_cons,List.not_mem_nil,or_false]at hx
  rcases hx with rfl|rfl
  ·exact Yh hl hb h0 k (by omega)
  ·exact apY (by omega) (Nat.le_refl _) hl hb h0
set_option maxRecDepth 100000 in
theorem YL(n:Nat)(l:List ExV)(hn:n≤4)(hl:l.length=n*n)(hb:gbd (-390000) 390000 l):Con Tryz.prog 78 false [.ag [.v (.int .i64 (n)),.sl (l).length (qA ExV.cs (l))]] [] (isA (.ag [.v (.bool (yo n l n).s),.sl (lim (yo n l n).m).length (qg (lim (yo n l n).m)),.v (.int .i64 (yo n l n).e)])):=by
 refine Con.frzA ?_
 have hq:=anE hn
 refine Con.of_aw Tryz.func78 rfl Tryz.ntmps78 (by simp) (by simp) (by simp) (AW.seqLe (E:=[(1,.fp [.v (.int .i64 n),.sl l.length (qA ExV.cs l)] 0),(2,.pt 0 0)]) (H:=[(0,.own 0 [.v (.bool false),.v (.slice none 0 0),.v (.int .i64 0)])]) (W.sound ?_) (W.sound ?_))
 ·show @W Tryz.prog 31 ⟨_⟩ ⟨_⟩ _ _
  simp(disch:=omega)only[go_sem]
  exact(Le.frz 30000000 (z:=0) (ks:=[.v (.int .i64 n),.sl l.length (qA ExV.cs l)]) (by simp(disch:=omega)only[go_sem]) rfl (by simp(disch:=omega)only[go_sem])).trans (Le.lst [(0,40000000)] _ _ rfl (by simp(disch:=omega)only[go_sem]) (by simp(disch:=omega)only[go_sem]))
 show @W Tryz.prog 31 ⟨_⟩ ⟨fun x σ=>@qV _ _ _ ⟨_⟩ _ ⟨_⟩ x σ⟩ _ _
 simp(disch:=omega)only[go_sem]
 refine qj (fun j:Nat=>[(1,.fp [.v (.int .i64 n),.sl l.length (qA ExV.cs l)] 0),(2,.pt 0 0),(3,.pt 1 0),(8,.v (.int .i64 n)),(9,.v (.int .i64 j))])
  (fun j=>[(0,.own 0 [.v (.bool false),.v (.slice none 0 0),.v (.int .i64 0)]),(1,.own 0 [.v (.bool (yo n l j).s),.sl (lim (yo n l j).m).length (qg (lim (yo n l j).m)),.v (.int .i64 (yo n l j).e)])]) (fun j=>j≤n) (fun j=>n-j) 0 (by omega)
  ((Le.nilC 50000000 1 (zo:=0) (cs:=[.v (.bool false),.v (.slice none 0 0),.v (.int .i64 0)]) (by simp(disch:=omega)only[go_sem]) rfl).trans (Le.lst [(1,50000000)] _ _ rfl (by simp(disch:=omega)only[go_sem]) (by simp(disch:=omega)only[go_sem,List.set_cons_succ,List.set_cons_zero,show yo n l 0=ex0 from rfl,ex0,ql]))) ?_
 intro j hj
 have hN:=Yh hl hb (by omega) j hj
 have hNs:=JL n l j
 generalize hNN:yo n l j=A at*
 simp(disch:=omega)only[go_sem]
 refine qe (fun h1=>?_) (fun h1=>?_)
 ·simp(disch:=omega)only[go_sem,h1]
  refine qj (fun k:Nat=>[(1,.fp [.v (.int .i64 n),.sl l.length (qA ExV.cs l)] 0),(2,.pt 0 0),(3,.pt 1 0),(4,.v (.int .i64 j)),(5,.pt 2 0),(8,.v (.int .i64 n)),(9,.v (.int .i64 j)),(13,.v (.int .i64 n)),(14,.v (.int .i64 k))])
   (fun k=>[(0,.own 0 [.v (.bool false),.v (.slice none 0 0),.v (.int .i64 0)]),(1,.own 0 [.v (.bool A.s),.sl (lim A.m).length (qg (lim A.m)),.v (.int .i64 A.e)]),(2,.own 0 [.v (.bool (ajq n l j k).s),.sl (lim (ajq n l j k).m).length (qg (lim (ajq n l j k).m)),.v (.int .i64 (ajq n l j k).e)])]) (fun k=>k≤n) (fun k=>n-k) 0 (by omega)
   ((Le.nilC 70000000 1 (zo:=0) (cs:=[.v (.bool false),.v (.slice none 0 0),.v (.int .i64 0)]) (by simp(disch:=omega)only[go_sem]) rfl).trans (Le.lst [(2,70000000)] _ _ rfl (by simp(disch:=omega)only[go_sem]) (by simp(disch:=omega)only[go_sem,List.set_cons_succ,List.set_cons_zero,show ajq n l j 0=ex0 from rfl,ex0,ql]))) ?_
  intro k hk
  have hC:=apY (k:=k) (show j<n by omega) hk hl hb (by omega)
  have hCs:=apX n l j k
  generalize hCC:ajq n l j k=D at*
  simp(disch:=omega)only[go_sem]
  refine qe (fun h2=>?_) (fun h2=>?_)
  ·have hx:=Qm (show k<n by omega) (show j<n by omega)
   have c1:=apS n l k j (by omega) (by omega) (by omega) (by omega) (by omega)
   have b1:=zM hb (show k*n+j<l.length by omega)
   generalize l.getD (k*n+j) ex0=x at*
   simp(disch:=omega)only[go_sem,h2]
   refine qn rfl [⟨0,[],[]⟩,⟨1,[0],[]⟩,⟨2,[0,1],[]⟩,⟨3,[0,1],[]⟩,⟨4,[0],[]⟩,⟨5,[0],[]⟩,⟨6,[],[]⟩,⟨7,[],[]⟩] (by kernel_rfl) ?_
   simp(disch:=omega)only[go_sem]
   refine qa (c1) ?_
   simp(disch:=omega)only[go_sem]
   refine qa (YQ x) ?_
   simp(disch:=omega)only[go_sem]
   refine qa (jZ D x.abs (hC.mono (by omega) (by omega)) (ExV.abs_bd (b1.mono (by omega) (by omega)))) ?_
   simp(disch:=omega)only[go_sem]
   exact qh (k+1) [] (by show k+1≤_;omega) (by show n-(k+1)<n-k;omega) rfl (by simp(disch:=omega)only[go_sem];try omega) (by simp(disch:=omega)only[go_sem,hCs])
  ·obtain rfl:n=k:=by omega
   rw[hCC]at hNs
   simp(disch:=omega)only[go_sem,h2]
   have hrow:([.v (.bool A.s),.sl (lim A.m).length (qg (lim A.m)),.v (.int .i64 A.e),.v (.bool D.s),.sl (lim D.m).length (qg (lim D.m)),.v (.int .i64 D.e)]:List AV)=qA ExV.cs [A,D]:=rfl
   rw[hrow]
   refine zk false [290000000] (KS [A,D] (by simp) (by simp) (fun x hx=>?_)) (by simp(disch:=omega)only[go_sem]) (by simp(disch:=omega)only[go_sem]) rfl (zh (z:=3) (cs:=qA ExV.cs [A,D]) (by simp(disch:=omega)only[go_sem]) (by simp(disch:=omega)only[go_sem])) (by intro n hn;exact⟨_,List.mem_cons_self ..,by rw[List.mem_singleton.1 hn];rfl⟩) ?_
   ·simp only[List.mem_cons,List.not_mem_nil,or_false]at hx
    rcases hx with rfl|rfl
    ·exact hN.mono (by omega) (by omega)
    ·exact hC.mono (by omega) (by omega)
   rintro r hs bs ⟨rfl,rfl,rfl⟩-
   refine⟨by simp[qK],?_⟩
   simp(disch:=omega)only[go_sem]
   exact qh (j+1) [] (by show j+1≤_;omega) (by show n-(j+1)<n-j;omega) rfl (by simp(disch:=omega)only[go_sem];try omega) (by simp(disch:=omega)only[go_sem,hNs])
 ·simp(disch:=omega)only[go_sem,h1]
  obtain rfl:n=j:=by omega
  rw[hNN]
  exact qk
end Go.Ab
namespace Go.Ab
open Go Go.Proofs
def ExV.can(x:ExV):ExV:=⟨oS x.s x.m,oM x.m,oE x.m x.e⟩
def ExV.fit(x:ExV):Bool:=z8 x.m x.e
def SpV.can(s:SpV):SpV:=⟨s.lo.can,s.hi.can⟩
def SpV.fit(s:SpV):Bool:=s.lo.fit&&s.hi.fit
theorem YN(x:ExV)(hx:x.bd (-400000) 400000):Con Tryz.prog 68 false [.ag [.v (.bool (x).s),.sl (lim (x).m).length (qg (lim (x).m)),.v (.int .i64 (x).e)]] [] (isA (if x.fit=true then .tu [.ag [.v (.bool (x.can).s),.sl (lim (x.can).m).length (qg (lim (x.can).m)),.v (.int .i64 (x.can).e)],.v (.bool true)]else .tu [.ag [.v (.bool (false)),.sl (lim (0)).length (qg (lim (0))),.v (.int .i64 (0))],.v (.bool false)])):=by
 obtain⟨a1,a2,a3⟩:=hx
 exact apP x.s x.m x.e (by omega) (by omega)
set_option maxRecDepth 100000 in
theorem apO(l:List ExV)(hl:l.length≤1000)(hb:gbd (-400000) 400000 l):Con Tryz.prog 166 false [.sl l.length (qA ExV.cs l)] []
  (isA (if l.all ExV.fit=true then .tu [.sl l.length (qA ExV.cs (l.map ExV.can)),.v (.bool true)]else .tu [.sl 0 [],.v (.bool false)])):=by
 refine Con.frzA ?_
 refine Con.of_aw Tryz.func166 rfl Tryz.ntmps166 (by simp) (by simp) (by simp) (W.sound ?_)
 show @W Tryz.prog 28 ⟨_⟩ ⟨fun x σ=>@qV _ _ _ ⟨_⟩ _ ⟨_⟩ x σ⟩ _ _
 simp(disch:=omega)only[go_sem]
 refine qj (fun i:Nat=>[(2,.v (.slice none 0 0)),(3,.v (.bool false)),(4,.rf 1 0 i),(9,.sl l.length (qA ExV.cs l)),(10,.v (.int .i64 l.length)),(11,.v (.int .i64 i))])
  (fun i=>[(1,.own 3 (qA ExV.cs (mpT l ExV.can i)))]) (fun i=>i≤l.length∧∀x∈l.take i,x.fit=true) (fun i=>l.length-i) 0 ⟨by omega,by simp⟩
  ((Le.ghost 4 1 3 (by simp(disch:=omega)only[go_sem]) (by simp(disch:=omega)only[go_sem])).trans (Le.lst [] _ _ rfl (by simp(disch:=omega)only[go_sem]) (by simp(disch:=omega)only[go_sem,yE,YD]))) ?_
 rintro i ⟨hi,hf⟩
 simp(disch:=omega)only[go_sem]
 refine qe (fun h1=>?_) (fun h1=>?_)
 ·have hi2:i<l.length:=by omega
  have hci:=jw hi2
  have hcut:=zP (jl (F:=ExV.can) hi)
  have hml:=jl (F:=ExV.can) hi
  have hs:=yF (F:=ExV.can) ex0 hi2
  have hx:=zM hb hi2
  have hmem:l.getD i ex0∈l:=by rw[List.getD_eq_getElem?_getD,List.getElem?_eq_getElem hi2];exact List.getElem_mem _
  have htk:l.take (i+1)=l.take i++[l.getD i ex0]:=by
   rw[List.take_add_one,List.getElem?_eq_getElem hi2,List.getD_eq_getElem?_getD,List.getElem?_eq_getElem hi2];rfl
  generalize l.getD i ex0=x at*
  have cd:=YN x hx
  simp(disch:=omega)only[go_sem,h1,hci]
  refine⟨by omega,by omega,?_⟩
  cases hft:x.fit
  ·have hall:l.all ExV.fit=false:=by rw[List.all_eq_false];exact⟨x,hmem,by rw[hft];simp⟩
   rw[hft,if_neg (by simp)]at cd
   rw[hall,if_neg (by simp)]
   refine qa (cd) ?_
   simp(disch:=omega)only[go_sem]
   exact qk
  ·rw[hft,if_pos rfl]at cd
   refine qa (cd) ?_
   simp(disch:=omega)only[go_sem]
   simp(disch:=omega)only[go_sem,hcut,Qr]
   refine⟨⟨by rw[hml];exact Nat.le_refl _,by omega⟩,qh (i+1) [(1,270000000)] ⟨by show i+1≤_;omega,fun y hy=>?_⟩ (by show l.length-(i+1)<l.length-i;omega) rfl (by simp(disch:=omega)only[go_sem];try omega) (by simp(disch:=omega)only[go_sem,hs])⟩
   rw[htk]at hy
   rcases List.mem_append.1 hy with h|h
   ·exact hf y h
   ·rw[List.mem_singleton.1 h];exact hft
 ·simp(disch:=omega)only[go_sem,h1]
  obtain rfl:i=l.length:=by omega
  rw[List.take_length]at hf
  have hall:l.all ExV.fit=true:=List.all_eq_true.2 hf
  rw[hall,if_pos rfl]
  refine qm [(0,1)] [.own 3 (qA ExV.cs (mpT l ExV.can l.length))] [] [.rf 0 0 l.length,.v (.bool true)] rfl (by simp(disch:=omega)only[go_sem]) (by simp(disch:=omega)only[go_sem]) (by simp) (by simp) ?_
  show qM _ 6 _=_
  simp(disch:=omega)only[go_sem,J5,zz,Qx,zP (l:=l.map ExV.can) (k:=l.length) (List.length_map ..)]
theorem aKR(n:Nat)(l:List ExV)(hl:l.length≤1000)(hb:gbd (-400000) 400000 l):Con Tryz.prog 81 false [.ag [.v (.int .i64 (n)),.sl (l).length (qA ExV.cs (l))]] []
  (isA (if l.all ExV.fit=true then .tu [.ag [.v (.int .i64 n),.sl l.length (qA ExV.cs (l.map ExV.can))],.v (.bool true)]else .tu [.ag [.v (.int .i64 0),.sl 0 []],.v (.bool false)])):=by
 refine Con.frzA ?_
 have cd:=apO l hl hb
 generalize l.map ExV.can=L at*
 cases hf:l.all ExV.fit
 ·rw[hf,if_neg (by simp)]at cd
  rw[if_neg (by simp)]
  refine Con.of_w (rs:=[.cell 2 42,.tmp 3]) Tryz.func81 rfl Tryz.ntmps81 rfl ?_
  simp(disch:=omega)only[go_sem]
  refine qa (cd) ?_
  simp(disch:=omega)only[go_sem]
  exact qk
 ·rw[hf,if_pos rfl]at cd
  rw[if_pos rfl]
  refine Con.of_w (rs:=[.cell 2 42,.tmp 3]) Tryz.func81 rfl Tryz.ntmps81 rfl ?_
  simp(disch:=omega)only[go_sem]
  refine qa (cd) ?_
  simp(disch:=omega)only[go_sem]
  exact qk
theorem Jp(n:Nat)(l:List ExV)(x:ExV)(hl:l.length≤1000)(hb:gbd (-400000) 400000 l)(hx:x.bd (-400000) 400000):Con Tryz.prog 154 false [.ag [.v (.int .i64 (n)),.sl (l).length (qA ExV.cs (l))],.ag [.v (.bool (x).s),.sl (lim (x).m).length (qg (lim (x).m)),.v (.int .i64 (x).e)]] []
  (isA (if(l.all ExV.fit&&x.fit)=true then .tu [.ag [.v (.int .i64 n),.sl l.length (qA ExV.cs (l.map ExV.can))],.ag [.v (.bool (x.can).s),.sl (lim (x.can).m).length (qg (lim (x.can).m)),.v (.int .i64 (x.can).e)],.v (.bool true)]else .tu [.ag [.v (.int .i64 0),.sl 0 []],.ag [.v (.bool (false)),.sl (lim (0)).length (qg (lim (0))),.v (.int .i64 (0))],.v (.bool false)])):=by
 refine Con.frzA ?_
 have cd:=aKR n l hl hb
 have cx:=YN x hx
 generalize l.map ExV.can=L at*
 cases hf:l.all ExV.fit<;>cases hg:x.fit
 ·rw[hf,if_neg (by simp)]at cd
  rw[hg,if_neg (by simp)]at cx
  rw[if_neg (by simp)]
  refine Con.of_w (rs:=[.cell 4 42,.cell 5 29,.tmp 6]) Tryz.func154 rfl Tryz.ntmps154 rfl ?_
  simp(disch:=omega)only[go_sem]
  refine qa (cd) ?_
  simp(disch:=omega)only[go_sem]
  refine qa (cx) ?_
  simp(disch:=omega)only[go_sem]
  exact qk (hp:=by simp(disch:=omega)only[go_sem,ql,List.length_nil,jo])
 ·rw[hf,if_neg (by simp)]at cd
  rw[hg,if_pos rfl]at cx
  rw[if_neg (by simp)]
  refine Con.of_w (rs:=[.cell 4 42,.cell 5 29,.tmp 6]) Tryz.func154 rfl Tryz.ntmps154 rfl ?_
  simp(disch:=omega)only[go_sem]
  refine qa (cd) ?_
  simp(disch:=omega)only[go_sem]
  refine qa (cx) ?_
  simp(disch:=omega)only[go_sem]
  exact qk (hp:=by simp(disch:=omega)only[go_sem,ql,List.length_nil,jo])
 ·rw[hf,if_pos rfl]at cd
  rw[hg,if_neg (by simp)]at cx
  rw[if_neg (by simp)]
  refine Con.of_w (rs:=[.cell 4 42,.cell 5 29,.tmp 6]) Tryz.func154 rfl Tryz.ntmps154 rfl ?_
  simp(disch:=omega)only[go_sem]
  refine qa (cd) ?_
  simp(disch:=omega)only[go_sem]
  refine qa (cx) ?_
  simp(disch:=omega)only[go_sem]
  exact qk (hp:=by simp(disch:=omega)only[go_sem,ql,List.length_nil,jo])
 ·rw[hf,if_pos rfl]at cd
  rw[hg,if_pos rfl]at cx
  rw[if_pos (by rfl)]
  refine Con.of_w (rs:=[.cell 4 42,.cell 5 29,.tmp 6]) Tryz.func154 rfl Tryz.ntmps154 rfl ?_
  simp(disch:=omega)only[go_sem]
  refine qa (cd) ?_
  simp(disch:=omega)only[go_sem]
  refine qa (cx) ?_
  simp(disch:=omega)only[go_sem]
  refine qn rfl [⟨0,[],[]⟩,⟨1,[0],[]⟩,⟨2,[1],[]⟩,⟨3,[],[]⟩,⟨4,[],[]⟩] (by kernel_rfl) ?_
  simp(disch:=omega)only[go_sem]
  exact qk
theorem api(s:SpV)(hs:s.bd (-400000) 400000):Con Tryz.prog 91 false [.ag [.v (.bool (s).lo.s),.sl (lim (s).lo.m).length (qg (lim (s).lo.m)),.v (.int .i64 (s).lo.e),.v (.bool (s).hi.s),.sl (lim (s).hi.m).length (qg (lim (s).hi.m)),.v (.int .i64 (s).hi.e)]] []
  (isA (if s.fit=true then .tu [.ag [.v (.bool (s.can).lo.s),.sl (lim (s.can).lo.m).length (qg (lim (s.can).lo.m)),.v (.int .i64 (s.can).lo.e),.v (.bool (s.can).hi.s),.sl (lim (s.can).hi.m).length (qg (lim (s.can).hi.m)),.v (.int .i64 (s.can).hi.e)],.v (.bool true)]else .tu [.ag [.v (.bool (sp0).lo.s),.sl (lim (sp0).lo.m).length (qg (lim (sp0).lo.m)),.v (.int .i64 (sp0).lo.e),.v (.bool (sp0).hi.s),.sl (lim (sp0).hi.m).length (qg (lim (sp0).hi.m)),.v (.int .i64 (sp0).hi.e)],.v (.bool false)])):=by
 refine Con.frzA ?_
 have c1:=YN s.lo hs.1
 have c2:=YN s.hi hs.2
 unfold SpV.fit
 cases h1:s.lo.fit<;>cases h2:s.hi.fit
 ·rw[h1,if_neg (by simp)]at c1
  rw[h2,if_neg (by simp)]at c2
  rw[if_neg (by simp)]
  refine Con.of_w (rs:=[.cell 2 50,.tmp 3]) Tryz.func91 rfl Tryz.ntmps91 rfl ?_
  simp(disch:=omega)only[go_sem]
  refine qa (c1) ?_
  simp(disch:=omega)only[go_sem]
  refine qa (c2) ?_
  simp(disch:=omega)only[go_sem]
  exact qk (hp:=by simp(disch:=omega)only[go_sem,sp0,ex0,ql,List.length_nil,jo])
 ·rw[h1,if_neg (by simp)]at c1
  rw[h2,if_pos rfl]at c2
  rw[if_neg (by simp)]
  refine Con.of_w (rs:=[.cell 2 50,.tmp 3]) Tryz.func91 rfl Tryz.ntmps91 rfl ?_
  simp(disch:=omega)only[go_sem]
  refine qa (c1) ?_
  simp(disch:=omega)only[go_sem]
  refine qa (c2) ?_
  simp(disch:=omega)only[go_sem]
  exact qk (hp:=by simp(disch:=omega)only[go_sem,sp0,ex0,ql,List.length_nil,jo])
 ·rw[h1,if_pos rfl]at c1
  rw[h2,if_neg (by simp)]at c2
  rw[if_neg (by simp)]
  refine Con.of_w (rs:=[.cell 2 50,.tmp 3]) Tryz.func91 rfl Tryz.ntmps91 rfl ?_
  simp(disch:=omega)only[go_sem]
  refine qa (c1) ?_
  simp(disch:=omega)only[go_sem]
  refine qa (c2) ?_
  simp(disch:=omega)only[go_sem]
  exact qk (hp:=by simp(disch:=omega)only[go_sem,sp0,ex0,ql,List.length_nil,jo])
 ·rw[h1,if_pos rfl]at c1
  rw[h2,if_pos rfl]at c2
  rw[if_pos (by rfl)]
  refine Con.of_w (rs:=[.cell 2 50,.tmp 3]) Tryz.func91 rfl Tryz.ntmps91 rfl ?_
  simp(disch:=omega)only[go_sem]
  refine qa (c1) ?_
  simp(disch:=omega)only[go_sem]
  refine qa (c2) ?_
  simp(disch:=omega)only[go_sem]
  exact qk (hp:=by simp(disch:=omega)only[go_sem,SpV.can])
set_option maxRecDepth 100000 in
theorem apJ(n:Nat)(l:List SpV)(hl:l.length≤1000)(hb:sbd (-400000) 400000 l):Con Tryz.prog 149 false [.ag [.v (.int .i64 (n)),.sl (l).length (qA SpV.cs (l))]] []
  (isA (if l.all SpV.fit=true then .tu [.ag [.v (.int .i64 n),.sl l.length (qA SpV.cs (l.map SpV.can))],.v (.bool true)]else .tu [.ag [.v (.int .i64 0),.sl 0 []],.v (.bool false)])):=by
 refine Con.frzA ?_
 refine Con.of_aw Tryz.func149 rfl Tryz.ntmps149 (by simp) (by simp) (by simp) (W.sound ?_)
 show @W Tryz.prog 35 ⟨_⟩ ⟨fun x σ=>@qV _ _ _ ⟨_⟩ _ ⟨_⟩ x σ⟩ _ _
 simp(disch:=omega)only[go_sem]
 refine qj (fun i:Nat=>[(2,.pt 2 0),(3,.v (.bool false)),(4,.pt 0 0),(13,.sl l.length (qA SpV.cs l)),(14,.v (.int .i64 l.length)),(15,.v (.int .i64 i))])
  (fun i=>[(0,.own 0 [.v (.int .i64 n),.rf 1 0 i]),(1,.own 6 (qA SpV.cs (mpT l SpV.can i))),(2,.own 0 [.v (.int .i64 0),.v (.slice none 0 0)])]) (fun i=>i≤l.length∧∀x∈l.take i,x.fit=true) (fun i=>l.length-i) 0 ⟨by omega,by simp⟩
  ((Le.ghostC 60000000 1 1 6 (zo:=0) (cs:=[.v (.int .i64 n),.v (.slice none 0 0)]) (by simp(disch:=omega)only[go_sem]) rfl (by simp(disch:=omega)only[go_sem])).trans (Le.lst [(0,60000000),(2,40000000)] _ _ rfl (by simp(disch:=omega)only[go_sem]) (by simp(disch:=omega)only[go_sem,yE,Zt,List.set_cons_succ,List.set_cons_zero]))) ?_
 rintro i ⟨hi,hf⟩
 simp(disch:=omega)only[go_sem]
 refine qe (fun h1=>?_) (fun h1=>?_)
 ·have hi2:i<l.length:=by omega
  have hci:=yV hi2
  have hcut:=jc (jl (F:=SpV.can) hi)
  have hml:=jl (F:=SpV.can) hi
  have hs:=yF (F:=SpV.can) sp0 hi2
  have hx:=jJ hb hi2
  have hmem:l.getD i sp0∈l:=by rw[List.getD_eq_getElem?_getD,List.getElem?_eq_getElem hi2];exact List.getElem_mem _
  have htk:l.take (i+1)=l.take i++[l.getD i sp0]:=by
   rw[List.take_add_one,List.getElem?_eq_getElem hi2,List.getD_eq_getElem?_getD,List.getElem?_eq_getElem hi2];rfl
  generalize l.getD i sp0=x at*
  have cd:=api x hx
  simp(disch:=omega)only[go_sem,h1,hci]
  refine⟨by omega,by omega,?_⟩
  cases hft:x.fit
  ·have hall:l.all SpV.fit=false:=by rw[List.all_eq_false];exact⟨x,hmem,by rw[hft];simp⟩
   rw[hft,if_neg (by simp)]at cd
   rw[hall,if_neg (by simp)]
   refine qa (cd) ?_
   simp(disch:=omega)only[go_sem]
   exact qk
  ·rw[hft,if_pos rfl]at cd
   refine qa (cd) ?_
   simp(disch:=omega)only[go_sem]
   simp(disch:=omega)only[go_sem,hcut,Qb]
   refine⟨⟨by rw[hml];exact Nat.le_refl _,by omega⟩,qh (i+1) [(1,330000000)] ⟨by show i+1≤_;omega,fun y hy=>?_⟩ (by show l.length-(i+1)<l.length-i;omega) rfl (by simp(disch:=omega)only[go_sem];try omega) (by simp(disch:=omega)only[go_sem,hs])⟩
   rw[htk]at hy
   rcases List.mem_append.1 hy with h|h
   ·exact hf y h
   ·rw[List.mem_singleton.1 h];exact hft
 ·simp(disch:=omega)only[go_sem,h1]
  obtain rfl:i=l.length:=by omega
  rw[List.take_length]at hf
  have hall:l.all SpV.fit=true:=List.all_eq_true.2 hf
  rw[hall,if_pos rfl]
  refine qm [(0,1)] [.own 6 (qA SpV.cs (mpT l SpV.can l.length))] [] [.ag [.v (.int .i64 n),.rf 0 0 l.length],.v (.bool true)] rfl (by simp(disch:=omega)only[go_sem]) (by simp(disch:=omega)only[go_sem]) (by simp) (by simp) ?_
  show qM _ 6 _=_
  simp(disch:=omega)only[go_sem,J5,zz,Qx,jc (l:=l.map SpV.can) (k:=l.length) (List.length_map ..)]
end Go.Ab
namespace Go.Ab
open Go Go.Proofs
def fct:Nat→Nat
 |0=>1
 |n+1=>(n+1)*fct n
theorem ao2:∀n,n≤500→bl (fct n)≤9*n+1
 |0,_=>by decide
 |n+1,h=>by
  have h1:=ao2 n (by omega)
  have h2:=zJ (n+1) (fct n)
  have h3:bl (n+1)≤9:=zl.2 (by omega)
  show bl ((n+1)*fct n)≤_
  omega
theorem ao1:∀n,0<fct n
 |0=>by decide
 |n+1=>Nat.mul_pos (by omega) (ao1 n)
theorem aB0(n:Nat)(hn:n≤402):Con Tryz.prog 271 false [.v (.int .i64 n)] [] (isA (.sl (lim (fct n)).length (qg (lim (fct n))))):=by
 refine Con.frzA ?_
 refine Con.of_w (rs:=[.tmp 2]) Tryz.func271 rfl Tryz.ntmps271 rfl ?_
 simp(disch:=omega)only[go_sem]
 refine qa (q8 1 (by omega)) ?_
 simp(disch:=omega)only[go_sem]
 by_cases h1:n≤1
 ·have e1:fct n=1:=by
   rcases(by omega:n=0∨n=1)with rfl|rfl<;>rfl
  rw[e1]
  refine qj (fun _:Nat=>[(0,.v (.int .i64 n)),(2,.v (.slice none 0 0)),(3,.sl (lim (1)).length (qg (lim (1)))),(4,.v (.int .i64 2))]) (fun _=>[]) (fun _=>True) (fun _=>0) 0 trivial (Le.lst [] _ _ rfl (by simp(disch:=omega)only[go_sem]) (by simp(disch:=omega)only[go_sem])) ?_
  intro _ _
  simp(disch:=omega)only[go_sem]
  have q:decide ((2:Int)≤(n:Int))=false:=decide_eq_false (by omega)
  simp(disch:=omega)only[go_sem,q]
  exact qk
 ·refine qj (fun k:Nat=>[(0,.v (.int .i64 n)),(2,.v (.slice none 0 0)),(3,.sl (lim (fct k)).length (qg (lim (fct k)))),(4,.v (.int .i64 ((k:Int)+1)))]) (fun _=>[]) (fun k=>1≤k∧k≤n) (fun k=>n-k) 1 (by omega) (Le.lst [] _ _ rfl (by simp(disch:=omega)only[go_sem,show fct 1=1 from rfl,show((1:Nat):Int)+1=2 from rfl];try rfl) (by simp(disch:=omega)only[go_sem])) ?_
  rintro k ⟨hk1,hk⟩
  simp(disch:=omega)only[go_sem]
  refine qe (fun h2=>?_) (fun h2=>?_)
  ·simp(disch:=omega)only[go_sem,h2]
   have e1:(k:Int)+1=((k+1:Nat):Int):=by omega
   have l1:=qt (ao2 k (by omega))
   have l2:=qt (m:=k+1) (B:=9) (zl.2 (by omega))
   have cs:=q8 (k+1) (by omega)
   rw[←e1]at cs
   refine qa (cs) ?_
   simp(disch:=omega)only[go_sem]
   refine qa (yJ (fct k) (k+1) (by omega) (by omega)) ?_
   simp(disch:=omega)only[go_sem]
   have e2:fct k*(k+1)=fct (k+1):=Nat.mul_comm _ _
   exact qh (k+1) [] ⟨by omega,by omega⟩ (by show n-(k+1)<n-k;omega) rfl (by simp(disch:=omega)only[go_sem,e2];try omega) (by simp(disch:=omega)only[go_sem])
  ·simp(disch:=omega)only[go_sem,h2]
   obtain rfl:n=k:=by omega
   exact qk
def tmS(W:Nat):Nat→Nat→Nat
 |_,0=>0
 |k,f+1=>if fct (k+1)*2^k<2^W then tmS W (k+1) f else k
def tmF(W:Nat):Nat:=tmS W 1 402
theorem apf(B:Nat)(hW:B≤400):Con Tryz.prog 225 true [.v (.int .i64 (-(B:Int)))] [] (isA (.v (.int .i64 (tmF B)))):=by
 refine Con.of_w (rs:=[.tmp 2]) Tryz.func225 rfl Tryz.ntmps225 rfl ?_
 simp(disch:=omega)only[go_sem]
 refine qj (fun k:Nat=>[(0,.v (.int .i64 (-(B:Int)))),(2,.v (.int .i64 0)),(3,.v (.int .i64 k))]) (fun _=>[]) (fun k=>1≤k∧k≤401∧tmS B k (403-k)=tmF B) (fun k=>402-k) 1 ⟨by omega,by omega,rfl⟩ (Le.lst [] _ _ rfl (by simp(disch:=omega)only[go_sem]) (by simp(disch:=omega)only[go_sem])) ?_
 rintro k ⟨hk1,hk2,ht⟩
 have e1:(k:Int)+1=((k+1:Nat):Int):=by omega
 have e2:0-(-(B:Int))=(B:Int):=by omega
 have cf:=aB0 (k+1) (by omega)
 rw[←e1]at cf
 have b1:=ao2 (k+1) (by omega)
 have l1:=qt b1
 have b2:=QM (fct (k+1)) k
 have l2:=qt (m:=fct (k+1)*2^k) (B:=5000) (by omega)
 have b3:=QM 1 B
 have b4:bl 1≤1:=zl.2 (by decide)
 have l3:=qt (m:=1*2^B) (B:=500) (by omega)
 have l4:=qt b4
 have cu:=zf 1 B (by omega) (by omega)
 rw[←e2]at cu
 have cc:=zB (fct (k+1)*2^k) (1*2^B) (by omega) (by omega)
 have hstep:tmS B k (403-k)=if fct (k+1)*2^k<2^B then tmS B (k+1) (403-(k+1))else k:=by
  rw[show 403-k=(403-(k+1))+1 by omega];rfl
 have hbig:fct (k+1)*2^k<2^B→k<B:=fun h=>by
  rcases Nat.lt_or_ge k B with h'|h'
  ·exact h'
  ·have g1:2^B≤2^k:=Nat.pow_le_pow_right (by omega) h'
   have g2:1*2^k≤fct (k+1)*2^k:=Nat.mul_le_mul_right _ (ao1 _)
   omega
 have hcl:=(Jb ((fct (k+1)*2^k:Nat):Int) ((1*2^B:Nat):Int)).2.1
 generalize zw ((fct (k+1)*2^k:Nat):Int) ((1*2^B:Nat):Int)=C at*
 generalize fct (k+1)=FF at*
 simp(disch:=omega)only[go_sem]
 refine qa (cf) ?_
 simp(disch:=omega)only[go_sem]
 refine qa (zf FF k (by omega) (by omega)) ?_
 simp(disch:=omega)only[go_sem]
 refine qa (q8 1 (by omega)) ?_
 simp(disch:=omega)only[go_sem]
 refine qa (cu) ?_
 simp(disch:=omega)only[go_sem]
 refine qc (cc) ?_
 simp(disch:=omega)only[go_sem]
 refine qe (fun h1=>?_) (fun h1=>?_)
 ·simp(disch:=omega)only[go_sem,h1]
  have hlt:FF*2^k<2^B:=by have:=hcl.1 h1;omega
  have:=hbig hlt
  rw[if_pos hlt,ht]at hstep
  exact qh (k+1) [] ⟨by omega,by omega,hstep.symm⟩ (by show 402-(k+1)<402-k;omega) rfl (by simp(disch:=omega)only[go_sem];try omega) (by simp(disch:=omega)only[go_sem])
 ·simp(disch:=omega)only[go_sem,h1]
  have hlt:¬FF*2^k<2^B:=fun h=>h1 (hcl.2 (by omega))
  rw[if_neg hlt,ht]at hstep
  rw[hstep]
  exact qu
end Go.Ab
namespace Go.Ab
open Go
section
variable {P:Program}
theorem Zi{L:Nat→Option Blk→Prop}{w0:World}{R0:Nat→Prop}{N:Nat}{ops:Array Oper}{K:St→Prop}{Q':Exit→Act→World→Prop}{rest:List Nat}(hQ:∀σ a w,In L w0 R0 N σ a w→K σ→wpOps P ops Q' rest a w):
  ∀(r:List Oper) (k:Nat),(∀j,j<r.length→ops[k+j]? =r[j]?)→∀{e h a w},In L w0 R0 N ⟨e,h⟩ a w→ChF P N ops.toList K r e h→wpOps P ops Q' (List.range' k r.length++rest) a w
 | [],k,hk,e,h,a,w,hi,hs=>by
  simp only[List.length_nil,List.range'_zero,List.nil_append]
  exact hQ _ _ _ hi hs
 |⟨d,op,ty,pos,af,g⟩::r,k,hk,e,h,a,w,hi,hs=>by
  have ho:ops[k]? =some ⟨d,op,ty,pos,af,g⟩:=by
   have:=hk 0 (by simp)
   simpa using this
  have hr:∀j,j<r.length→ops[k+1+j]? =r[j]? :=fun j hj=>by
   have:=hk (j+1) (by simpa using hj)
   rw[show k+1+j=k+(j+1) by omega,this];simp
  have hd:dOk N d:=by cases g<;>exact hs.1
  simp only[List.length_cons,List.range'_succ,List.cons_append,wpOps,ho]
  have run:@Op1 P ⟨d⟩ ⟨op⟩ ⟨fun v hp=>ChF P N ops.toList K r (yO e d v) hp⟩ e h→Oper.wp P ⟨d,op,ty,pos,af,g⟩ a w (wpOps P ops Q' (List.range' (k+1) r.length++rest)) Q':=fun hs=>by
   obtain⟨R,ι,hR,hinv⟩:=hi.inv
   refine ad6 hinv (Op1.sound hs ty pos af g) fun x w' R' ι' av hp' hR' hK hx hm hi'=>?_
   exact Zi hQ r (k+1) hr (hi.put (o:=⟨d,op,ty,pos,af,g⟩) hd hR hR' hx hm hi') hK
  have skip:ChF P N ops.toList K r (yO e d (.v (.tuple ⟨[]⟩))) h→wpOps P ops Q' (List.range' (k+1) r.length++rest) (a.put d undef) w:=fun hs=>by
   obtain⟨R,ι,hR,hinv⟩:=hi.inv
   exact Zi hQ r (k+1) hr (hi.put (o:=⟨d,op,ty,pos,af,g⟩) hd hR (fun _ h=>.inl h) (.fr _ _ (.v _)) (by simp[AV.All]) hinv) hs
  cases g with
  |none=>
   rw[if_pos (by simp[Region.wanted])]
   exact .inl (run hs.2)
  |some p=>
   obtain⟨j,want⟩:=p
   have h2:=hs.2
   unfold KI at h2
   dsimp only at h2
   split at h2
   ·rename_i d' hd'
    have key:∀v c,e d'=.v v→(match v with| .bool b=>some b|_=>none)=c→yielded ops a.tmps j=c:=by
     intro v c hv hc
     obtain⟨R,ι,hR,hinv⟩:=hi.inv
     have:=hinv.env d'
     change Rep _ _ _ _ (e d')at this
     rw[hv]at this
     have:=this.v_inv
     unfold yielded
     rw[Array.getElem?_toList]at hd'
     rw[hd']
     rw[Array.getD_eq_getD_getElem?]at this
     cases ee:a.tmps[d']? with
     |none=>
      rw[ee]at this
      subst hc
      have:v=undef:=this.symm
      subst this;simp[ee,undef]
     |some y=>rw[ee]at this;simp at this;subst this;subst hc;simp only[Option.bind_some,ee];cases y<;>rfl
    unfold Je at h2
    split at h2
    ·rename_i b hb
     have hy:=key _ _ hb rfl
     have hw:Region.wanted ⟨d,op,ty,pos,af,some (j,want)⟩ (yielded ops a.tmps)=(b==want):=by
      simp only[Region.wanted,hy]
      cases b<;>cases want<;>rfl
     rw[hw]
     cases hbw:b==want with
     |true=>rw[if_pos rfl];exact .inl (run (h2.1 hbw))
     |false=>rw[if_neg (by simp)];exact skip (h2.2 hbw)
    ·rename_i hb
     have hy:=key _ _ hb rfl
     have hw:Region.wanted ⟨d,op,ty,pos,af,some (j,want)⟩ (yielded ops a.tmps)=false:=by
      simp only[Region.wanted,hy]
      cases want<;>rfl
     rw[hw,if_neg (by simp)]
     exact skip (h2.2 rfl)
    ·exact h2.elim
   ·exact h2.elim
theorem aKN{N:Nat}{l:List Oper}{Q:St→Prop}{e:Nat→AV}{h:Nat→Ob}{E:List (Nat×AV)}{H:List (Nat×Ob)}(hl:Le ⟨e,h⟩ ⟨ofL .un E,ofH H⟩)(hd:@aiG P N ⟨l⟩ ⟨Q⟩ ⟨ofL .un E,ofH H⟩):@aiG P N ⟨l⟩ ⟨Q⟩ ⟨e,h⟩:=
 fun id=>AW.le hl (hd id)
theorem AW.regSplit{N:Nat}{Q:Exit→St→Prop}{e:Nat→AV}{h:Nat→Ob}{id:Nat}{l:List Oper}{y:Code}(k:Nat){pre suf:List Oper}(hp:l.take k=pre)(hs:l.drop k=suf){E:List (Nat×AV)}{H:List (Nat×Ob)}
  (h1:@Ch P N ⟨l⟩ ⟨pre⟩ ⟨fun σ'=>Le σ' ⟨ofL .un E,ofH H⟩⟩ e h) (h2:@Ch P N ⟨l⟩ ⟨suf⟩ ⟨fun σ=>@W P N ⟨y⟩ ⟨Q⟩ σ.env σ.hp⟩ (ofL .un E) (ofH H)):AW P N (.seq (.region id ⟨l⟩ false) y) Q ⟨e,h⟩:=by
 refine AW.seq fun L w0 R0 a w hi=>wp_region ?_
 have hl:l=pre++suf:=by rw[←hp,←hs,List.take_append_drop]
 have hr:List.range (⟨l⟩:Array Oper).size=List.range' 0 pre.length++(List.range' pre.length suf.length++[]):=by
  have hsz:(⟨l⟩:Array Oper).size=pre.length+suf.length:=by show l.length=_;rw[hl,List.length_append]
  rw[hsz,List.append_nil,List.range_eq_range',List.range'_append_1.symm,Nat.zero_add]
 rw[hr]
 refine Zi (K:=fun σ'=>Le σ' ⟨ofL .un E,ofH H⟩) (fun σ a w hi2 hle=>?_) pre 0 (fun j hj=>?_) hi h1
 ·refine Zi (K:=fun σ=>@W P N ⟨y⟩ ⟨Q⟩ σ.env σ.hp) (fun σ a w hi3 hq=>?_) suf pre.length (fun j hj=>?_) (hle L w0 R0 N a w hi2) h2
  ·exact⟨σ,hi3,W.sound hq⟩
  ·rw[List.getElem?_toArray,hl,List.getElem?_append_right (by omega),Nat.add_sub_cancel_left]
 ·rw[List.getElem?_toArray,hl,Nat.zero_add,List.getElem?_append_left hj]
end
end Go.Ab
namespace Go.Ab
open Go Go.Proofs
instance (lo hi:Int)(x:ExV):Decidable (x.bd lo hi):=inferInstanceAs (Decidable ((x.m=0→x.s=false)∧lo≤x.e∧(bl x.m:Int)+x.e≤hi))
instance (lo hi:Int)(x:SpV):Decidable (x.bd lo hi):=inferInstanceAs (Decidable (x.lo.bd lo hi∧x.hi.bd lo hi))
instance (lo hi:Int)(l:List ExV):Decidable (gbd lo hi l):=inferInstanceAs (Decidable (∀x∈l,x.bd lo hi))
instance (lo hi:Int)(l:List SpV):Decidable (sbd lo hi l):=inferInstanceAs (Decidable (∀x∈l,x.bd lo hi))
def hB:List SpV:=(yr 1 [ex0] (ex1.shift 0)).map ptS
def hSt:Nat→List SpV×List SpV
 |0=>((gId 1).map ptS,(gId 1).map ptS)
 |i+1=>(KP (hSt i).1 ((jW 1 (hSt i).2 hB).map fun s=>s.divd (i+1) (-22)),(jW 1 (hSt i).2 hB).map fun s=>s.divd (i+1) (-22))
def aLT:List SpV:=(hSt 7).1.map fun s=>s.fat (ex1.shift (-22))
def aDS:List SpV:=aLT.map fun s=>s.out (-14)
theorem ZJ:∀i,(hSt i).1.length=1∧(hSt i).2.length=1
 |0=>by decide+kernel
 |i+1=>⟨KO.trans (ZJ i).1,by show(List.map _ _).length=1;rw[List.length_map];exact ZK⟩
theorem aoL:∀i,i<8→sbd (-100000) 100000 (hSt i).1∧sbd (-100000) 100000 (hSt i).2∧sbd (-100000) 100000 (jW 1 (hSt i).2 hB):=by decide+kernel
theorem bbP:tmF 22=7:=by decide+kernel
set_option maxRecDepth 100000 in
theorem apK(n:Nat)(h1:n=1):Con Tryz.prog 148 false [.ag [.v (.int .i64 (n)),.sl ([ex0]).length (qA ExV.cs ([ex0]))],.v (.int .i64 (-10))] [] (isA (.ag [.v (.int .i64 (n)),.sl (aDS).length (qA SpV.cs (aDS))])):=by
 refine Con.frzA ?_
 have hn:n≤4:=by omega
 have cn:=YL n [ex0] hn (by rw[h1];rfl) (by decide+kernel)
 rw[show yo n [ex0] n=ex0 by rw[h1];decide+kernel]at cn
 have cz:Con Tryz.prog 193 true [.ag [.v (.bool (ex0).s),.sl (lim (ex0).m).length (qg (lim (ex0).m)),.v (.int .i64 (ex0).e)]] [] (isA (.v (.bool true))):=j2 ex0.s ex0.m ex0.e
 have cs:=QG ex1 0 (by decide) (by decide)
 have cg:=adx n [ex0] (ex1.shift 0) hn (by rw[h1];rfl) (by decide+kernel) (by decide+kernel)
 have cf:=Z4 n (yr n [ex0] (ex1.shift 0)) (by show(gl _ _ _).length≤_;rw[ZL,h1];decide)
 rw[show(yr n [ex0] (ex1.shift 0)).map ptS=hB by rw[h1];rfl]at cf
 have ci:=aKV n hn
 have cfi:=Z4 n (gId n) (by show(gl _ _ _).length≤_;rw[ZL,h1];decide)
 rw[show(gId n).map ptS=(hSt 0).1 by rw[h1];rfl]at cfi
 have ct:Con Tryz.prog 225 true [.v (.int .i64 (-22))] [] (isA (.v (.int .i64 7))):=by have:=apf 22 (by omega);rw[bbP]at this;exact this
 have hw:(-10-2*0-12:Int)= -22:=rfl
 have cs2:=QG ex1 (-22) (by decide) (by decide)
 have cft:=aB2 n (hSt 7).1 (ex1.shift (-22)) (by rw[(ZJ 7).1];decide) (j6 (aoL 7 (by decide)).1 (by omega) (by omega)) (by decide+kernel)
 change Con _ _ _ _ _ (isA (.ag [.v (.int .i64 (n)),.sl (aLT).length (qA SpV.cs (aLT))]))at cft
 have cot:=aB1 n aLT (-14) (by show(List.map _ _).length≤_;rw[List.length_map,(ZJ 7).1];decide) (by decide+kernel) (by omega)
 change Con _ _ _ _ _ (isA (.ag [.v (.int .i64 (n)),.sl (aDS).length (qA SpV.cs (aDS))]))at cot
 generalize yr n [ex0] (ex1.shift 0)=G at*
 generalize gId n=I at*
 refine Con.of_w (rs:=[.cell 4 157]) Tryz.func148 rfl Tryz.ntmps148 rfl ?_
 simp(disch:=omega)only[go_sem]
 refine qa (cn) ?_
 simp(disch:=omega)only[go_sem]
 refine qc (cz) ?_
 simp(disch:=omega)only[go_sem]
 rw[hw]
 refine qn rfl [⟨0,[],[]⟩,⟨2,[0],[]⟩,⟨3,[0],[]⟩,⟨7,[0],[]⟩,⟨1,[0],[100000000]⟩,⟨4,[0],[100000000]⟩,⟨5,[],[100000000]⟩,⟨6,[],[100000000]⟩,⟨8,[],[]⟩] (by kernel_rfl) ?_
 simp(disch:=omega)only[go_sem]
 refine qa (YK) ?_
 simp(disch:=omega)only[go_sem]
 refine qa (cs) ?_ (by simp(disch:=omega)only[go_sem,show(0-0:Int)=0 from rfl])
 simp(disch:=omega)only[go_sem]
 refine qa (cg) ?_
 simp(disch:=omega)only[go_sem]
 refine qa (cf) ?_
 simp(disch:=omega)only[go_sem]
 refine qa (ci) ?_
 simp(disch:=omega)only[go_sem]
 refine qa (cfi) ?_
 simp(disch:=omega)only[go_sem]
 refine qj (fun i:Nat=>[(1,.v (.int .i64 (-10))),(4,.pt 0 0),(6,.v (.int .i64 0)),(7,.v (.int .i64 (-22))),(8,.pt 1 0),(9,.pt 2 0),(10,.pt 3 0),(11,.v (.int .i64 ((i:Int)+1)))])
  (fun i=>[(0,.own 0 [.v (.int .i64 0),.v (.slice none 0 0)]),(1,.own 0 [.v (.int .i64 n),.sl hB.length (qA SpV.cs hB)]),(2,.own 0 [.v (.int .i64 n),.sl (hSt i).1.length (qA SpV.cs (hSt i).1)]),(3,.own 0 [.v (.int .i64 n),.sl (hSt i).2.length (qA SpV.cs (hSt i).2)])])
  (fun i=>i≤7) (fun i=>7-i) 0 (by omega)
  (Le.lst [(0,60000000),(1,100000000),(2,110000000),(3,120000000)] _ _ rfl (by simp(disch:=omega)only[go_sem,show(0:Int)+1=1 from rfl]) (by simp(disch:=omega)only[go_sem,show(hSt 0).2=(hSt 0).1 from rfl])) ?_
 intro i hi
 obtain⟨b1,b2,b3⟩:=aoL i (by omega)
 obtain⟨l1,l2⟩:=ZJ i
 have ei:(i:Int)+1=((i+1:Nat):Int):=by omega
 have hBl:hB.length=1:=by decide+kernel
 have hBb:sbd (-190000) 190000 hB:=by decide+kernel
 have cT:=aiZ n (hSt i).2 hB hn (by rw[h1,l2]) (by rw[h1,hBl]) (j6 b2 (by omega) (by omega)) hBb
 rw[show jW n (hSt i).2 hB=jW 1 (hSt i).2 hB by rw[h1]]at cT
 have hTl:(jW 1 (hSt i).2 hB).length=1:=ZK
 have cD:=aB3 n (jW 1 (hSt i).2 hB) (i+1) (-22) (by omega) b3 (by omega) (by omega) (by omega)
 rw[←ei]at cD
 change Con _ _ _ _ _ (isA (.ag [.v (.int .i64 (n)),.sl ((hSt (i+1)).2).length (qA SpV.cs ((hSt (i+1)).2))]))at cD
 simp(disch:=omega)only[go_sem]
 refine qc (ct) ?_
 simp(disch:=omega)only[go_sem]
 refine qe (fun h2=>?_) (fun h2=>?_)
 ·have b4:=(aoL (i+1) (by omega)).2.1
  have cP:=apN n (hSt i).1 (hSt (i+1)).2 (by omega) (by rw[l1];exact(ZJ (i+1)).2) (j6 b1 (by omega) (by omega)) (j6 b4 (by omega) (by omega))
  change Con _ _ _ _ _ (isA (.ag [.v (.int .i64 (n)),.sl ((hSt (i+1)).1).length (qA SpV.cs ((hSt (i+1)).1))]))at cP
  generalize jW 1 (hSt i).2 hB=T at*
  generalize hS2:(hSt (i+1)).2=S2 at*
  generalize hS1:(hSt (i+1)).1=S1 at*
  simp(disch:=omega)only[go_sem,h2]
  refine qa (cT) ?_
  simp(disch:=omega)only[go_sem]
  refine qa (cD) ?_
  simp(disch:=omega)only[go_sem]
  refine qa (cP) ?_
  simp(disch:=omega)only[go_sem]
  exact qh (i+1) [] (by show i+1≤7;omega) (by show 7-(i+1)<7-i;omega) rfl (by simp(disch:=omega)only[go_sem];try omega) (by simp(disch:=omega)only[go_sem,hS1,hS2])
 ·obtain rfl:i=7:=by omega
  simp(disch:=omega)only[go_sem,h2]
  refine qn rfl [⟨0,[],[]⟩,⟨2,[0],[]⟩,⟨1,[0],[]⟩,⟨3,[0],[]⟩,⟨4,[],[]⟩,⟨5,[],[]⟩] (by kernel_rfl) ?_
  simp(disch:=omega)only[go_sem]
  refine qa (YK) ?_
  simp(disch:=omega)only[go_sem]
  refine qa (cs2) ?_
  simp(disch:=omega)only[go_sem]
  refine qa (cft) ?_
  simp(disch:=omega)only[go_sem]
  refine qj (fun _:Nat=>[(1,.v (.int .i64 (-10))),(4,.pt 0 0),(9,.pt 2 0),(58,.v (.int .i64 0)),(59,.v (.int .i64 0))])
   (fun _=>[(0,.own 0 [.v (.int .i64 0),.v (.slice none 0 0)]),(2,.own 0 [.v (.int .i64 n),.sl aLT.length (qA SpV.cs aLT)])]) (fun _=>True) (fun _=>0) 0 trivial (Le.lst [] _ _ rfl (by simp(disch:=omega)only[go_sem]) (by simp(disch:=omega)only[go_sem])) ?_
  intro _ _
  have q:decide ((0:Int)<0)=false:=rfl
  simp(disch:=omega)only[go_sem,q]
  refine qa (cot) ?_ (by simp(disch:=omega)only[go_sem,show(-10-4:Int)= -14 from rfl])
  simp(disch:=omega)only[go_sem]
  exact qk
end Go.Ab
namespace Go.Ab
open Go Go.Proofs
section
variable (g:Nat)(p:DyV→Bool)
theorem ai4(x:DyV)(hf:Con Tryz.prog g true [.ag x.cs] [] (isA (.v (.bool (p x)))))(hg:qp Tryz.prog g=True):
  Con Tryz.prog 283 true [.ag x.cs,.fp [.fn g []] 0] [] (isA (.v (.bool (!p x)))):=by
 unfold DyV.cs at hf ⊢
 refine Con.of_w (rs:=[.tmp 3]) Tryz.func283 rfl Tryz.ntmps283 rfl ?_
 simp(disch:=omega)only[go_sem,hg]
 refine qx hf (by simp(disch:=omega)only[go_sem]) ?_
 rintro r hs ⟨rfl,rfl,_⟩
 refine⟨by simp[qK],?_⟩
 simp(disch:=omega)only[go_sem]
 exact qu
theorem adw(f:Nat)(caps:List AV)(xs:List DyV)(hl:xs.length≤2^40)(hf:∀x∈xs,Con Tryz.prog f true (.ag x.cs::caps) [] (isA (.v (.bool (p x)))))(hg:qp Tryz.prog f=True)
  (hc:∀h:Nat→Ob,caps.map (qM h 6)=caps) (hc5:∀h:Nat→Ob,caps.map (qM h 5)=caps) (hn:∀ks,AllL (ye ks) caps) (hr:∀ρ,jk ρ caps=caps):
  Con Tryz.prog 304 true [.sl xs.length (qA DyV.cs xs),.fn f caps] [] (fun r hs bs=>∃i:Int,r=.v (.int .i64 i)∧hs=[]∧(0≤i↔∃x∈xs,p x=true)):=by
 refine Con.of_aw Tryz.func304 rfl Tryz.ntmps304 (by simp) (by simp) (by simp) (W.sound ?_)
 show @W Tryz.prog 19 ⟨_⟩ ⟨fun x σ=>@qV _ _ _ ⟨_⟩ _ ⟨_⟩ x σ⟩ _ _
 simp(disch:=omega)only[go_sem]
 refine qj (fun i:Nat=>[(0,.sl xs.length (qA DyV.cs xs)),(1,.fn f caps),(6,.sl xs.length (qA DyV.cs xs)),(7,.v (.int .i64 xs.length)),(8,.v (.int .i64 i))])
  (fun _=>[]) (fun i=>i≤xs.length∧∀j,j<i→p (xs.getD j ⟨false,[],0⟩)=false) (fun i=>xs.length-i) 0 ⟨by omega,fun j hj=>by omega⟩ (Le.lst [] _ _ rfl (by simp(disch:=omega)only[go_sem,hr,hn]) (by simp(disch:=omega)only[go_sem])) ?_
 rintro i ⟨hi,hp⟩
 simp(disch:=omega)only[go_sem]
 refine qe (fun h1=>?_) (fun h1=>?_)
 ·have hcut:=Ya (l:=xs) aD3 (i:=i) (by omega) ⟨false,[],0⟩
  simp(disch:=omega)only[go_sem,h1,hcut,hg]
  refine⟨by omega,by omega,qx (hf (xs.getD i ⟨false,[],0⟩) (by rw[List.getD_eq_getElem?_getD,List.getElem?_eq_getElem (by omega)];exact List.getElem_mem _)) (by simp(disch:=omega)only[go_sem,hc,hc5]) ?_⟩
  rintro r hs ⟨rfl,rfl,_⟩
  refine⟨by simp[qK],?_⟩
  simp(disch:=omega)only[go_sem]
  refine zI (fun h2=>?_) (fun h2=>?_)
  ·simp(disch:=omega)only[go_sem,h2]
   refine qb (by simp(disch:=omega)only[go_sem]) (by simp(disch:=omega)only[go_sem]) ⟨i,rfl,rfl,?_⟩
   refine⟨fun _=>⟨_,?_,h2⟩,fun _=>by omega⟩
   rw[List.getD_eq_getElem?_getD,List.getElem?_eq_getElem (by omega)];exact List.getElem_mem _
  ·simp(disch:=omega)only[go_sem,h2]
   refine qh (i+1) [] ⟨by omega,fun j hj=>?_⟩ (by show xs.length-(i+1)<xs.length-i;omega) rfl (by simp(disch:=omega)only[go_sem,hr,hn];try omega) (by simp(disch:=omega)only[go_sem])
   rcases(by omega:j<i∨j=i)with h|h
   ·exact hp j h
   ·subst h;exact h2
 ·simp(disch:=omega)only[go_sem,h1]
  refine qb (by simp(disch:=omega)only[go_sem]) (by simp(disch:=omega)only[go_sem]) ⟨-1,rfl,rfl,?_⟩
  refine⟨fun h=>by omega,fun⟨x,hx,hpx⟩=>?_⟩
  obtain⟨j,hj,rfl⟩:=List.getElem_of_mem hx
  have:=hp j (by omega)
  rw[List.getD_eq_getElem?_getD,List.getElem?_eq_getElem hj]at this
  simp only[Option.getD_some]at this
  rw[this]at hpx;cases hpx
theorem Jr(f:Nat)(caps:List AV)(xs:List DyV)(hl:xs.length≤2^40)(hf:∀x∈xs,Con Tryz.prog f true (.ag x.cs::caps) [] (isA (.v (.bool (p x)))))(hg:qp Tryz.prog f=True)
  (hc:∀h:Nat→Ob,caps.map (qM h 6)=caps) (hc5:∀h:Nat→Ob,caps.map (qM h 5)=caps) (hn:∀ks,AllL (ye ks) caps) (hr:∀ρ,jk ρ caps=caps):
  Con Tryz.prog 282 true [.sl xs.length (qA DyV.cs xs),.fn f caps] [] (isA (.v (.bool (xs.any p)))):=by
 refine Con.of_aw Tryz.func282 rfl Tryz.ntmps282 (by simp) (by simp) (by simp) (W.sound ?_)
 show @W Tryz.prog 9 ⟨_⟩ ⟨fun x σ=>@qV _ _ _ ⟨_⟩ _ ⟨_⟩ x σ⟩ _ _
 simp(disch:=omega)only[go_sem]
 refine qx (adw p f caps xs hl hf hg hc hc5 hn hr) (by simp(disch:=omega)only[go_sem,hc,hc5]) ?_
 rintro r hs ⟨i,rfl,rfl,hi⟩
 refine⟨by simp[qK],?_⟩
 simp(disch:=omega)only[go_sem]
 refine qb (by simp(disch:=omega)only[go_sem]) (by simp(disch:=omega)only[go_sem]) ⟨?_,rfl,rfl⟩
 have:decide (0≤i)=xs.any p:=by rw[Bool.eq_iff_iff,decide_eq_true_eq,hi,List.any_eq_true]
 rw[this];rfl
theorem apU(xs:List DyV)(hl:xs.length≤2^40)(hf:∀x∈xs,Con Tryz.prog g true [.ag x.cs] [] (isA (.v (.bool (p x)))))(hg:qp Tryz.prog g=True):
  Con Tryz.prog 238 true [.sl xs.length (qA DyV.cs xs),.fn g []] [] (isA (.v (.bool (xs.all p)))):=by
 refine Con.of_aw Tryz.func238 rfl Tryz.ntmps238 (by simp) (by simp) (by simp) (W.sound ?_)
 show @W Tryz.prog 9 ⟨_⟩ ⟨fun x σ=>@qV _ _ _ ⟨_⟩ _ ⟨_⟩ x σ⟩ _ _
 simp(disch:=omega)only[go_sem]
 refine qx (Jr (fun x=> !p x) 283 [.fp [.fn g []] 0] xs hl (fun x hx=>ai4 g p x (hf x hx) hg) (by simp(disch:=omega)only[go_sem]) (fun h=>rfl) (fun h=>rfl) (fun ks=>by simp(disch:=omega)only[go_sem]) (fun ρ=>rfl)) (by simp(disch:=omega)only[go_sem]) ?_
 rintro r hs ⟨rfl,rfl,_⟩
 refine⟨by simp[qK],?_⟩
 simp(disch:=omega)only[go_sem]
 refine qb (by simp(disch:=omega)only[go_sem]) (by simp(disch:=omega)only[go_sem]) ⟨?_,rfl,rfl⟩
 have:(!xs.any fun x=> !p x)=xs.all p:=by rw[List.all_eq_not_any_not]
 rw[this];rfl
end
def DyV.ok(x:DyV):Bool:=dyB x.s x.xs x.e
theorem ai2(xs:List DyV)(hl:xs.length≤2^40)(hx:∀x∈xs,x.xs.length≤2^40):Con Tryz.prog 161 true [.sl xs.length (qA DyV.cs xs)] [] (isA (.v (.bool (xs.all DyV.ok)))):=by
 refine Con.of_w (rs:=[.tmp 2]) Tryz.func161 rfl Tryz.ntmps161 rfl ?_
 simp(disch:=omega)only[go_sem]
 refine qc (apU 63 DyV.ok xs hl (fun x h=>aB4 x.s x.xs x.e (hx x h)) (by simp(disch:=omega)only[go_sem])) ?_
 simp(disch:=omega)only[go_sem]
 exact qu
def aS9(n:Int)(l:List DyV):Bool:=(decide (1≤n)&&decide (n≤4))&&(decide ((l.length:Int)=n*n)&&l.all DyV.ok)
theorem apV(n:Int)(l:List DyV)(hl:l.length≤2^40)(hx:∀x∈l,x.xs.length≤2^40):Con Tryz.prog 76 true [.ag [.v (.int .i64 n),.sl l.length (qA DyV.cs l)]] [] (isA (.v (.bool (aS9 n l)))):=by
 unfold aS9
 cases h1:(decide (1≤n)&&decide (n≤4))
 ·rw[Bool.false_and]
  refine Con.of_w (rs:=[.tmp 2]) Tryz.func76 rfl Tryz.ntmps76 rfl ?_
  simp(disch:=omega)only[go_sem]
  refine qc (zA n 1 4) ?_
  simp(disch:=omega)only[go_sem]
  simp(disch:=omega)only[go_sem,h1]
  exact qu
 ·rw[Bool.true_and]
  have h1':1≤n∧n≤4:=by simpa using h1
  have hq:0≤n*n∧n*n≤16:=⟨Int.mul_nonneg (by omega) (by omega),Int.mul_le_mul h1'.2 h1'.2 (by omega) (by omega)⟩
  cases h2:decide ((l.length:Int)=n*n)
  ·rw[Bool.false_and]
   refine Con.of_w (rs:=[.tmp 2]) Tryz.func76 rfl Tryz.ntmps76 rfl ?_
   simp(disch:=omega)only[go_sem]
   refine qc (zA n 1 4) ?_
   simp(disch:=omega)only[go_sem]
   simp(disch:=omega)only[go_sem,h1,h2]
   exact qu
  ·rw[Bool.true_and]
   refine Con.of_w (rs:=[.tmp 2]) Tryz.func76 rfl Tryz.ntmps76 rfl ?_
   simp(disch:=omega)only[go_sem]
   refine qc (zA n 1 4) ?_
   simp(disch:=omega)only[go_sem]
   simp(disch:=omega)only[go_sem,h1,h2]
   refine qc (ai2 l hl hx) ?_
   simp(disch:=omega)only[go_sem]
   exact qu
end Go.Ab
namespace Go.Ab
open Go Go.Proofs
def ExV.dy(x:ExV):DyV:=⟨x.s,lim x.m,x.e⟩
theorem aM2(l:List ExV):qA ExV.cs l=qA DyV.cs (l.map ExV.dy):=by unfold qA;rw[List.map_map];rfl
def ExV.ok(x:ExV):Bool:=dyB x.s (lim x.m) x.e
def aNZ(n:Int)(l:List ExV):Bool:=(decide (1≤n)&&decide (n≤4))&&(decide ((l.length:Int)=n*n)&&l.all ExV.ok)
theorem aJs(n:Int)(l:List ExV):aS9 n (l.map ExV.dy)=aNZ n l:=by
 unfold aS9 aNZ
 rw[List.length_map,List.all_map];rfl
theorem ai5(n:Int)(l:List ExV)(hl:l.length≤2^40)(hx:∀x∈l,(lim x.m).length≤2^40):Con Tryz.prog 76 true [.ag [.v (.int .i64 n),.sl l.length (qA ExV.cs l)]] [] (isA (.v (.bool (aNZ n l)))):=by
 have:=apV n (l.map ExV.dy) (by rw[List.length_map];exact hl) (fun x h=>by
  obtain⟨y,hy,rfl⟩:=List.mem_map.1 h
  exact hx y hy)
 rw[aJs,←aM2,List.length_map]at this
 exact this
def ain(F:List SpV)(X:List ExV)(k:Nat):List ExV:=(List.range k).map fun i=>zK [((F.getD i sp0).hi.plus (X.getD i ex0).neg).abs,((X.getD i ex0).plus (F.getD i sp0).lo.neg).abs]
theorem Qf{F:List SpV}{X:List ExV}{k:Nat}:(ain F X k).length=k:=by simp[ain]
theorem aob{F:List SpV}{X:List ExV}{k:Nat}:ain F X (k+1)=ain F X k++[zK [((F.getD k sp0).hi.plus (X.getD k ex0).neg).abs,((X.getD k ex0).plus (F.getD k sp0).lo.neg).abs]]:=by simp[ain,List.range_succ]
theorem aoa{lo hi:Int}{s:SpV}{x:ExV}(hs:s.bd lo hi)(hx:x.bd lo hi):gbd lo (hi+1) [(s.hi.plus x.neg).abs,(x.plus s.lo.neg).abs]:=by
 intro y hy
 simp only[List.mem_cons,List.not_mem_nil,or_false]at hy
 rcases hy with rfl|rfl
 ·exact ExV.abs_bd (ExV.plus_bd hs.2 (ExV.neg_bd hx))
 ·exact ExV.abs_bd (ExV.plus_bd hx (ExV.neg_bd hs.1))
theorem aIV{lo hi:Int}{F:List SpV}{X:List ExV}{k:Nat}(hF:sbd lo hi F)(hX:gbd lo hi X)(h1:k≤F.length)(h2:k≤X.length):gbd lo (hi+1) (ain F X k):=by
 intro y hy
 simp only[ain,List.mem_map,List.mem_range]at hy
 obtain⟨i,hi,rfl⟩:=hy
 exact Zd (aoa (jJ hF (by omega)) (zM hX (by omega))) (by simp)
def aef(n:Nat)(F:List SpV)(low:Int):List ExV:=aJP n (F.map ac6) low 0
def jX(n:Nat)(F:List SpV)(low:Int):ExV:=yo n (ain F (aef n F low) (n*n)) n
theorem aJr{lo hi:Int}{s:SpV}(hs:s.bd lo hi):(ac6 s).bd (lo-1) hi:=by
 have:=ExV.shift_bd (k:= -1) (ExV.plus_bd hs.1 hs.2)
 exact this.mono (by omega) (by omega)
theorem aJO{lo hi low mode:Int}{n:Nat}{l:List ExV}(hl:l.length=n*n)(h:gbd lo hi l)(h1:lo≤low)(h2:low≤hi):gbd lo (hi+1) (aJP n l low mode):=
 aYs fun i j hi hj=>ExV.rnd_bd (zM h (by rw[hl];exact Qm hi hj)) h1 h2
set_option maxRecDepth 100000 in
set_option maxHeartbeats 2000000 in
theorem adE(n:Nat)(L:List ExV)(low:Int)(F:List SpV)(hn:n≤4)(hL:L.length=n*n)(hlow: -1000≤low∧low≤1000)(ca:Con Tryz.prog 147 true [.ag [.v (.int .i64 (n)),.sl (L).length (qA ExV.cs (L))],.v (.int .i64 low)] [] (isA (.v (.bool true))))
  (ch:Con Tryz.prog 148 false [.ag [.v (.int .i64 (n)),.sl (L).length (qA ExV.cs (L))],.v (.int .i64 low)] [] (isA (.ag [.v (.int .i64 (n)),.sl (F).length (qA SpV.cs (F))]))) (hF:F.length=n*n) (hFb:sbd (-300000) 300000 F) (hfit:F.all SpV.fit=true):
  Con Tryz.prog 70 false [.ag [.v (.int .i64 (n)),.sl (L).length (qA ExV.cs (L))],.v (.int .i64 low)] []
   (isA (if((aef n F low).all ExV.fit&&(jX n F low).fit)=true then .tu [.ag [.v (.int .i64 n),.sl (aef n F low).length (qA ExV.cs ((aef n F low).map ExV.can))],.ag [.v (.bool ((jX n F low).can).s),.sl (lim ((jX n F low).can).m).length (qg (lim ((jX n F low).can).m)),.v (.int .i64 ((jX n F low).can).e)],.v (.bool true)]else .tu [.ag [.v (.int .i64 0),.sl 0 []],.ag [.v (.bool (false)),.sl (lim (0)).length (qg (lim (0))),.v (.int .i64 (0))],.v (.bool false)])):=by
 refine Con.frzA ?_
 have hq:=anE hn
 have cg:=ZW n L (by omega)
 have cv:=apJ n F (by omega) (j6 hFb (by omega) (by omega))
 rw[hfit,if_pos rfl]at cv
 have cm:=aKQ n F (by omega) (j6 hFb (by omega) (by omega))
 have hml:(F.map ac6).length=n*n:=by rw[List.length_map,hF]
 have hmb:gbd (-300001) 300000 (F.map ac6):=by
  intro x hx
  obtain⟨s,hs,rfl⟩:=List.mem_map.1 hx
  exact(aJr (hFb s hs)).mono (by omega) (by omega)
 have cr:=aBY n (F.map ac6) low 0 hn hml (Zf hmb (by omega) (by omega)) (by omega)
 have hXl:(aef n F low).length=n*n:=by unfold aef aJP;exact ZL
 have hXb:gbd (-300001) 300001 (aef n F low):=aJO hml hmb (by omega) (by omega)
 change Con _ _ _ _ _ (isA (.ag [.v (.int .i64 (n)),.sl (aef n F low).length (qA ExV.cs (aef n F low))]))at cr
 have hOb:gbd (-300001) 300002 (ain F (aef n F low) (n*n)):=aIV (j6 hFb (by omega) (by omega)) hXb (by omega) (by omega)
 have cno:=YL n (ain F (aef n F low) (n*n)) hn Qf (Zf hOb (by omega) (by omega))
 change Con _ _ _ _ _ (isA (.ag [.v (.bool (jX n F low).s),.sl (lim (jX n F low).m).length (qg (lim (jX n F low).m)),.v (.int .i64 (jX n F low).e)]))at cno
 have hFar:(jX n F low).bd (-300001) 300006:=(Yh Qf hOb (by omega) n (Nat.le_refl _)).mono (by omega) (by omega)
 have cw:=Jp n (aef n F low) (jX n F low) (by omega) (Zf hXb (by omega) (by omega)) (hFar.mono (by omega) (by omega))
 generalize jX n F low=far at*
 generalize aef n F low=X at*
 generalize F.map ac6=M at*
 generalize F.map SpV.can=FC at*
 refine Con.of_w (rs:=[.cell 4 42,.cell 5 29,.tmp 6]) Tryz.func70 rfl Tryz.ntmps70 rfl ?_
 simp(disch:=omega)only[go_sem]
 refine qc (ca) ?_
 simp(disch:=omega)only[go_sem]
 refine qa (cg) ?_
 simp(disch:=omega)only[go_sem]
 refine qa (ch) ?_
 simp(disch:=omega)only[go_sem]
 refine qa (cv) ?_
 simp(disch:=omega)only[go_sem]
 refine qa (cm) ?_
 simp(disch:=omega)only[go_sem]
 refine qa (cr) ?_
 simp(disch:=omega)only[go_sem]
 refine qj (fun i:Nat=>[(4,.pt 2 0),(5,.pt 3 0),(7,.pt 4 0),(10,.pt 5 0),(11,.pt 0 0),(41,.sl F.length (qA SpV.cs F)),(42,.v (.int .i64 F.length)),(43,.v (.int .i64 i))])
  (fun i=>[(0,.own 0 [.v (.int .i64 n),.rf 1 0 i]),(1,.own 3 (qA ExV.cs (ain F X i))),(2,.own 0 [.v (.int .i64 0),.v (.slice none 0 0)]),(3,.own 0 [.v (.bool false),.v (.slice none 0 0),.v (.int .i64 0)]),(4,.own 0 [.v (.int .i64 n),.sl F.length (qA SpV.cs F)]),(5,.own 0 [.v (.int .i64 n),.sl X.length (qA ExV.cs X)])])
  (fun i=>i≤F.length) (fun i=>F.length-i) 0 (by omega)
  ((Le.ghostC 130000000 1 1 3 (zo:=0) (cs:=[.v (.int .i64 n),.v (.slice none 0 0)]) (by simp(disch:=omega)only[go_sem]) rfl (by simp(disch:=omega)only[go_sem])).trans (Le.lst [(0,130000000),(2,60000000),(3,70000000),(4,90000000),(5,120000000)] _ _ rfl (by simp(disch:=omega)only[go_sem]) (by simp(disch:=omega)only[go_sem,show ain F X 0=[] from rfl,YD,List.set_cons_succ,List.set_cons_zero]))) ?_
 intro i hi
 simp(disch:=omega)only[go_sem]
 refine qe (fun h1=>?_) (fun h1=>?_)
 ·have hi2:i<F.length:=by omega
  have hci:=yV hi2
  have hcx:=jw (l:=X) (i:=i) (by omega)
  have hcut:=zP (Qf (F:=F) (X:=X) (k:=i))
  have hs:=aob (F:=F) (X:=X) (k:=i)
  have bs:=jJ hFb hi2
  have bx:=zM hXb (show i<X.length by omega)
  have b2:=aoa (SpV.bd.mono bs (by omega) (by omega)) bx
  generalize F.getD i sp0=s at*
  generalize X.getD i ex0=x at*
  simp(disch:=omega)only[go_sem,h1,hci]
  refine⟨by omega,by omega,?_⟩
  refine qn rfl [⟨0,[],[]⟩,⟨1,[],[]⟩,⟨2,[1],[]⟩,⟨3,[1],[]⟩,⟨4,[1,3],[]⟩,⟨5,[1,3],[]⟩,⟨6,[1,3,5],[]⟩,⟨7,[1,3],[]⟩,⟨8,[1,3],[]⟩,⟨11,[1,3,5,8],[]⟩,⟨12,[1,3,5,8],[]⟩,⟨13,[1,3,5,8,12],[]⟩,⟨14,[1,3,5,8],[]⟩,⟨15,[1,3,5,8],[]⟩,⟨16,[1,3,5,8,12,15],[]⟩,⟨17,[1,3,5,8,12,15],[]⟩,⟨9,[1,12,15,17],[]⟩,⟨10,[1,12,15,17],[]⟩,⟨18,[1],[]⟩,⟨19,[1],[]⟩,⟨20,[1],[]⟩,⟨21,[1],[]⟩,⟨22,[1],[]⟩,⟨23,[],[]⟩,⟨24,[],[]⟩,⟨25,[],[]⟩] (by kernel_rfl) ?_
  simp(disch:=omega)only[go_sem,hcx]
  refine⟨by omega,by omega,by omega,by omega,?_⟩
  refine qa (QI s.hi x (bs.2.mono (by omega) (by omega)) (bx.mono (by omega) (by omega))) ?_
  simp(disch:=omega)only[go_sem]
  refine qa (YQ (s.hi.plus x.neg)) ?_
  simp(disch:=omega)only[go_sem]
  refine qa (QI x s.lo (bx.mono (by omega) (by omega)) (bs.1.mono (by omega) (by omega))) ?_
  simp(disch:=omega)only[go_sem]
  refine qa (YQ (x.plus s.lo.neg)) ?_
  simp(disch:=omega)only[go_sem]
  generalize (s.hi.plus x.neg).abs=A at*
  generalize (x.plus s.lo.neg).abs=B at*
  have hrow:([.v (.bool A.s),.sl (lim A.m).length (qg (lim A.m)),.v (.int .i64 A.e),.v (.bool B.s),.sl (lim B.m).length (qg (lim B.m)),.v (.int .i64 B.e)]:List AV)=qA ExV.cs [A,B]:=rfl
  rw[hrow]
  refine zk false [700000000] (KS [A,B] (by simp) (by simp) (Zf b2 (by omega) (by omega))) (by simp(disch:=omega)only[go_sem]) (by simp(disch:=omega)only[go_sem]) rfl (zh (z:=3) (cs:=qA ExV.cs [A,B]) (by simp(disch:=omega)only[go_sem]) (by simp(disch:=omega)only[go_sem])) (by intro n hn;exact⟨_,List.mem_cons_self ..,by rw[List.mem_singleton.1 hn];rfl⟩) ?_
  rintro r hs2 bs2 ⟨rfl,rfl,rfl⟩-
  refine⟨by simp[qK],?_⟩
  simp(disch:=omega)only[go_sem,hcut,Qr]
  refine⟨⟨by rw[Qf];exact Nat.le_refl _,by omega⟩,qh (i+1) [(1,730000000)] (by show i+1≤_;omega) (by show F.length-(i+1)<F.length-i;omega) rfl (by simp(disch:=omega)only[go_sem];try omega) (by simp(disch:=omega)only[go_sem,hs])⟩
 ·simp(disch:=omega)only[go_sem,h1]
  obtain rfl:i=F.length:=by omega
  have hol:=Qf (F:=F) (X:=X) (k:=n*n)
  rw[hF]
  generalize ain F X (n*n)=O at*
  rw[hol]at cno
  refine aKN (E:=[(4,.pt 2 0),(5,.pt 3 0),(10,.pt 5 0),(11,.pt 0 0)]) (H:=[(0,.own 0 [.v (.int .i64 n),.sl (n*n) (qA ExV.cs O)]),(2,.own 0 [.v (.int .i64 0),.v (.slice none 0 0)]),(3,.own 0 [.v (.bool false),.v (.slice none 0 0),.v (.int .i64 0)]),(5,.own 0 [.v (.int .i64 n),.sl X.length (qA ExV.cs X)])])
   ((Le.frz 1 (z:=3) (ks:=qA ExV.cs O) (by simp(disch:=omega)only[go_sem]) rfl (by simp(disch:=omega)only[go_sem])).trans (Le.lst [] _ _ rfl (by simp(disch:=omega)only[go_sem]) (by simp(disch:=omega)only[go_sem,zP hol]))) ?_
  refine qn rfl [⟨0,[],[]⟩,⟨1,[0],[]⟩,⟨2,[0],[]⟩,⟨3,[],[]⟩,⟨4,[],[]⟩,⟨5,[],[]⟩,⟨6,[],[]⟩,⟨7,[],[]⟩,⟨8,[],[]⟩,⟨9,[],[]⟩] (by kernel_rfl) ?_
  simp(disch:=omega)only[go_sem]
  refine qa (cno) ?_
  simp(disch:=omega)only[go_sem]
  cases hc:(X.all ExV.fit&&far.fit)
  ·rw[hc,if_neg (by simp)]at cw
   rw[if_neg (by simp)]
   refine qa (cw) ?_
   simp(disch:=omega)only[go_sem]
   exact qk (hp:=by simp(disch:=omega)only[go_sem,ql,List.length_nil,jo])
  ·rw[hc,if_pos rfl]at cw
   rw[if_pos rfl]
   refine qa (cw) ?_
   simp(disch:=omega)only[go_sem]
   exact qk
theorem KZ(n:Nat)(h1:n=1):Con Tryz.prog 147 true [.ag [.v (.int .i64 (n)),.sl ([ex0]).length (qA ExV.cs ([ex0]))],.v (.int .i64 (-10))] [] (isA (.v (.bool true))):=by
 have cm:=ai5 n [ex0] (by decide) (by intro x hx;rw[List.mem_singleton.1 hx];show(lim 0).length≤_;rw[ql];decide)
 have hm:aNZ n [ex0]=true:=by
  rw[h1];unfold aNZ;rw[List.all_cons,List.all_nil,show ex0.ok=true by show dyB false (lim 0) 0=true;rw[ql];decide];decide
 rw[hm]at cm
 have cg:=ZW n [ex0] (by decide)
 have cn:=YL n [ex0] (by omega) (by rw[h1];rfl) (by decide+kernel)
 rw[show yo n [ex0] n=ex0 by rw[h1];decide+kernel]at cn
 have cc:=Zh ex0 (exN 64) (by decide+kernel) (by decide+kernel)
 rw[show ex0.cmp (exN 64)= -1 by decide+kernel]at cc
 have q:decide ((-1:Int)≤0)=true:=rfl
 have q1:(decide ((-120:Int)≤ -10)&&decide ((-10:Int)≤0))=true:=rfl
 have cwi:=zA (-10) (-120) 0
 rw[q1]at cwi
 refine Con.of_w (rs:=[.tmp 4]) Tryz.func147 rfl Tryz.ntmps147 rfl ?_
 simp(disch:=omega)only[go_sem]
 refine qc (cm) ?_
 simp(disch:=omega)only[go_sem]
 refine qc (cwi) ?_
 simp(disch:=omega)only[go_sem]
 refine qa (cg) ?_
 simp(disch:=omega)only[go_sem]
 refine qa (cn) ?_
 simp(disch:=omega)only[go_sem]
 refine qa (q8 64 (by omega)) ?_
 simp(disch:=omega)only[go_sem]
 refine qx cc (by simp(disch:=omega)only[go_sem,exN]) ?_
 rintro r hs ⟨rfl,rfl,_⟩
 refine⟨by simp[qK],?_⟩
 simp(disch:=omega)only[go_sem,q]
 exact qu
end Go.Ab
namespace Go.Ab
open Go Go.Proofs
theorem j0(cl:Bool)(xs:List Int)(m:Nat)(hl:xs.length≤2^39)(hx:gd xs)(hv:vl xs=(m:Int)):Con Tryz.prog 259 cl [.sl xs.length (qg xs)] [] (aDO m):=by
 refine Con.of_aw Tryz.func259 rfl Tryz.ntmps259 (by simp) (by simp) (by simp) (W.sound ?_)
 show @W Tryz.prog 24 ⟨_⟩ ⟨fun x σ=>@qV _ _ _ ⟨_⟩ _ ⟨_⟩ x σ⟩ _ _
 simp(disch:=omega)only[go_sem]
 have hcz:ZT xs=lim m:=by rw[je hx,hv,Int.toNat_natCast]
 refine qj (fun k:Nat=>[(0,.sl xs.length (qg xs)),(2,.pt 40000000 0),(3,.v (.int .i64 k))]) (fun _=>[(40000000,.own 0 [.v (.slice none 0 0)])]) (fun k=>k≤xs.length∧ZT (xs.take k)=ZT xs) id xs.length ⟨Nat.le_refl _,by simp⟩
  (Le.lst [] _ _ rfl (by simp(disch:=omega)only[go_sem]) (by simp(disch:=omega)only[go_sem])) ?_
 intro k ⟨hk,hc⟩
 have hkx:∀j,j+1=k→xs.take k=xs.take j++[xs.getD j 0]:=fun j hj=>by rw[←hj];exact jT (by omega)
 simp(disch:=omega)only[go_sem]
 refine qe (fun h1=>?_) (fun h1=>?_)
 ·obtain⟨j,rfl⟩:∃j,k=j+1:=⟨k-1,by omega⟩
  have e1:((j+1:Nat):Int)-1=(j:Nat):=by omega
  rw[hkx j rfl]at hc
  simp(disch:=omega)only[go_sem,h1,e1]
  refine⟨by omega,by omega,qe (fun h2=>?_) (fun h2=>?_)⟩
  ·simp(disch:=omega)only[go_sem,h2,e1]
   rw[h2,Qs]at hc
   exact qh j [] ⟨by omega,hc⟩ (by show j<j+1;omega) rfl (by simp(disch:=omega)only[go_sem];try omega) (by simp(disch:=omega)only[go_sem])
  ·rw[YE _ h2,←hkx j rfl,hcz]at hc
   have hlm:j+1=(lim m).length:=by rw[←hc,List.length_take];omega
   have e0:(((j+1:Nat):Int)-0).toNat=(lim m).length:=by omega
   rw[hlm]at hc
   simp(disch:=omega)only[go_sem,h2,e0,hc]
   refine⟨by omega,by omega,?_⟩
   refine qm [(0,240000000)] [.own 1 (qg (lim m))] [] [.ag [.rf 0 0 (lim m).length]] rfl (by simp(disch:=omega)only[go_sem]) (by simp(disch:=omega)only[go_sem]) (by simp) (by intro _;simp[qW,AV.pu,AV.pu.puL,Ob.pu,za]) (.inr ⟨[],rfl,by rw[List.append_nil]⟩)
 ·have hlm:k=(lim m).length:=by
   have:k=0:=by omega
   rw[←hcz,←hc,this];rfl
  subst hlm
  have hc:xs.take (lim m).length=lim m:=by
   have:lim m=[]:=List.length_eq_zero_iff.1 (by omega)
   rw[this];simp
  have e0:(((lim m).length:Int)-0).toNat=(lim m).length:=by omega
  simp(disch:=omega)only[go_sem,h1,e0,hc]
  refine⟨by omega,by omega,?_⟩
  refine qm [(0,240000000)] [.own 1 (qg (lim m))] [] [.ag [.rf 0 0 (lim m).length]] rfl (by simp(disch:=omega)only[go_sem]) (by simp(disch:=omega)only[go_sem]) (by simp) (by intro _;simp[qW,AV.pu,AV.pu.puL,Ob.pu,za]) (.inr ⟨[],rfl,by rw[List.append_nil]⟩)
theorem aep(cl:Bool)(n:Nat)(hn:n<2^63):Con Tryz.prog 203 cl [.v (.int .i64 n)] [] (aDO n):=by
 refine Con.of_aw Tryz.func203 rfl Tryz.ntmps203 (by simp) (by simp) (by simp) (W.sound ?_)
 show @W Tryz.prog 15 ⟨_⟩ ⟨fun x σ=>@qV _ _ _ ⟨_⟩ _ ⟨_⟩ x σ⟩ _ _
 simp(disch:=omega)only[go_sem]
 refine qj (fun x:Nat×List Int=>[(0,.v (.int .i64 x.1)),(2,.pt 2 0),(3,.rf 1 0 x.2.length)]) (fun x=>[(1,.own 1 (qg x.2)),(2,.own 0 [.v (.slice none 0 0)])]) (fun x=>x.1<2^63∧x.2++lim x.1=lim n) (fun x=>x.1) (n,[]) ⟨hn,rfl⟩
  ((Le.ghost 3 1 1 (by simp(disch:=omega)only[go_sem]) (by simp(disch:=omega)only[go_sem])).trans (Le.lst [(2,40000000)] _ _ rfl (by simp(disch:=omega)only[go_sem]) (by simp(disch:=omega)only[go_sem]))) ?_
 rintro⟨k,l⟩ ⟨hk,hl⟩
 dsimp only at hk hl ⊢
 have hlen:l.length≤4:=by
  have h1:=congrArg List.length hl
  have h2:=jL (n:=n) (k:=4) |>.2 (by omega)
  rw[List.length_append]at h1;omega
 simp(disch:=omega)only[go_sem]
 refine qe (fun h1=>?_) (fun h1=>?_)
 ·simp(disch:=omega)only[go_sem,h1]
  have hk0:k≠0:=by omega
  refine⟨by omega,qh (k/65536,l++[(k:Int) % 65536]) [(1,120000000)] ⟨by show k/65536<2^63;omega,?_⟩ (by show k/65536<k;omega) rfl (by simp(disch:=omega)only[go_sem,List.length_append];try omega) (by simp(disch:=omega)only[go_sem])⟩
  rw[yb hk0]at hl
  rw[←hl,List.append_assoc];rfl
 ·simp(disch:=omega)only[go_sem,h1]
  have hk0:k=0:=by omega
  subst hk0
  rw[ql,List.append_nil]at hl
  subst hl
  refine qm [(0,1)] [.own 1 (qg (lim n++[]))] [] [.ag [.rf 0 0 (lim n).length]] rfl (by simp(disch:=omega)only[go_sem]) (by simp(disch:=omega)only[go_sem]) (by simp) (by intro _;simp[qW,AV.pu,AV.pu.puL,Ob.pu,za]) (.inr ⟨[],rfl,rfl⟩)
end Go.Ab
namespace Go.Ab
open Go Go.Proofs
set_option maxRecDepth 100000 in
theorem apH(cl:Bool)(a b:Nat)(la:(lim a).length≤2000000)(lb:(lim b).length≤2000000):Con Tryz.prog 206 cl [.ag [.sl (lim (a)).length (qg (lim (a)))],.ag [.sl (lim (b)).length (qg (lim (b)))]] [] (aDO (a+b)):=by
 refine Con.of_aw Tryz.func206 rfl Tryz.ntmps206 (by simp) (by simp) (by simp) (W.sound ?_)
 show @W Tryz.prog 61 ⟨_⟩ ⟨fun x σ=>@qV _ _ _ ⟨_⟩ _ ⟨_⟩ x σ⟩ _ _
 simp(disch:=omega)only[go_sem]
 have hA:=qO a
 have hB:=qO b
 refine qj (fun x:Nat×List Int×Int=>[(2,.pt 3 0),(3,.pt 4 0),(4,.pt 2 0),(5,.rf 1 0 x.2.1.length),(6,.v (.int .i64 x.2.2)),(7,.v (.int .i64 x.1))])
  (fun x=>[(1,.own 1 (qg x.2.1)),(2,.own 0 [.v (.slice none 0 0)]),(3,.own 0 [.sl (lim (a)).length (qg (lim (a)))]),(4,.own 0 [.sl (lim (b)).length (qg (lim (b)))])])
  (fun x=>x.1≤max (lim a).length (lim b).length+1∧x.2.1.length=x.1∧gd x.2.1∧(0≤x.2.2∧x.2.2≤1)∧vl x.2.1+65536^x.1*x.2.2=vl ((lim a).take x.1)+vl ((lim b).take x.1)∧(max (lim a).length (lim b).length<x.1→x.2.2=0))
  (fun x=>2*(max (lim a).length (lim b).length-x.1)+x.2.2.toNat) (0,[],0) ⟨by simp,rfl,ZM,by simp,by simp[vl],fun h=>rfl⟩
  ((Le.ghost 5 1 1 (by simp(disch:=omega)only[go_sem]) (by simp(disch:=omega)only[go_sem])).trans (Le.lst [(2,60000000),(3,40000000),(4,50000000)] _ _ rfl (by simp(disch:=omega)only[go_sem]) (by simp(disch:=omega)only[go_sem]))) ?_
 rintro⟨i,out,cy⟩ ⟨hi,hol,hog,hcy,hov,hcz⟩
 dsimp only at hi hol hog hcy hov hcz ⊢
 have hx:=qJ hA i
 have hy:=qJ hB i
 have hxz:¬(i:Int)<(lim a).length→(lim a).getD i 0=0:=fun h=>by rw[List.getD_eq_getElem?_getD,List.getElem?_eq_none (by omega)];rfl
 have hyz:¬(i:Int)<(lim b).length→(lim b).getD i 0=0:=fun h=>by rw[List.getD_eq_getElem?_getD,List.getElem?_eq_none (by omega)];rfl
 have hstep:∀q:Int,q=cy+(lim a).getD i 0+(lim b).getD i 0→vl (out++[q % 65536])+65536^(i+1)*(q/65536)=vl ((lim a).take (i+1))+vl ((lim b).take (i+1)):=by
  intro q hq
  rw[js,qX,qX,hol,Int.pow_succ]
  have e3:q % 65536+65536*(q/65536)=q:=Int.emod_add_mul_ediv q 65536
  generalize (65536:Int)^i=Pi at*
  grind
 have key:∀q:Int,q=cy+(lim a).getD i 0+(lim b).getD i 0→(i:Int)<(lim a).length∨(i:Int)<(lim b).length∨0<cy→
   ((i+1≤max (lim a).length (lim b).length+1∧(out++[q % 65536]).length=i+1∧gd (out++[q % 65536])∧(0≤q/65536∧q/65536≤1)∧vl (out++[q % 65536])+65536^(i+1)*(q/65536)=vl ((lim a).take (i+1))+vl ((lim b).take (i+1))∧(max (lim a).length (lim b).length<i+1→q/65536=0))∧
   2*(max (lim a).length (lim b).length-(i+1))+(q/65536).toNat<2*(max (lim a).length (lim b).length-i)+cy.toNat):=by
  intro q hq hc
  have hle:i≤max (lim a).length (lim b).length:=by
   rcases Nat.lt_or_ge (max (lim a).length (lim b).length) i with h|h
   ·have:=hcz h;omega
   ·exact h
  have hbig:max (lim a).length (lim b).length<i+1→q/65536=0:=fun h=>by
   have:=hxz (by omega)
   have:=hyz (by omega)
   omega
  refine⟨⟨by omega,by simp[hol],qP.2 ⟨hog,z7.2 (by omega)⟩,by omega,hstep q hq,hbig⟩,?_⟩
  by_cases hm:max (lim a).length (lim b).length<i+1
  ·have:=hbig hm;omega
  ·omega
 by_cases h1:(i:Int)<(lim a).length<;>by_cases h2:(i:Int)<(lim b).length
 ·simp(disch:=omega)only[go_sem,h1,h2]
  obtain⟨k1,k2⟩:=key _ rfl (.inl h1)
  refine⟨by omega,by omega,by omega,by omega,by omega,qh (i+1,out++[(cy+(lim a).getD i 0+(lim b).getD i 0) % 65536],(cy+(lim a).getD i 0+(lim b).getD i 0)/65536) [(1,580000000)] k1 k2 rfl (by simp(disch:=omega)only[go_sem,List.length_append];try omega) (by simp(disch:=omega)only[go_sem])⟩
 ·simp(disch:=omega)only[go_sem,h1,h2]
  have e0:cy+(lim a).getD i 0=cy+(lim a).getD i 0+(lim b).getD i 0:=by rw[hyz h2];omega
  obtain⟨k1,k2⟩:=key (cy+(lim a).getD i 0) e0 (.inl h1)
  refine⟨by omega,by omega,by omega,qh (i+1,out++[(cy+(lim a).getD i 0) % 65536],(cy+(lim a).getD i 0)/65536) [(1,580000000)] k1 k2 rfl (by simp(disch:=omega)only[go_sem,List.length_append];try omega) (by simp(disch:=omega)only[go_sem])⟩
 ·simp(disch:=omega)only[go_sem,h1,h2]
  have e0:cy+(lim b).getD i 0=cy+(lim a).getD i 0+(lim b).getD i 0:=by rw[hxz h1];omega
  obtain⟨k1,k2⟩:=key (cy+(lim b).getD i 0) e0 (.inr (.inl h2))
  refine⟨by omega,by omega,by omega,qh (i+1,out++[(cy+(lim b).getD i 0) % 65536],(cy+(lim b).getD i 0)/65536) [(1,580000000)] k1 k2 rfl (by simp(disch:=omega)only[go_sem,List.length_append];try omega) (by simp(disch:=omega)only[go_sem])⟩
 ·by_cases h3:0<cy
  ·simp(disch:=omega)only[go_sem,h1,h2,h3]
   have e0:cy=cy+(lim a).getD i 0+(lim b).getD i 0:=by rw[hxz h1,hyz h2];omega
   obtain⟨k1,k2⟩:=key cy e0 (.inr (.inr h3))
   refine⟨by omega,qh (i+1,out++[cy % 65536],cy/65536) [(1,580000000)] k1 k2 rfl (by simp(disch:=omega)only[go_sem,List.length_append];try omega) (by simp(disch:=omega)only[go_sem])⟩
  ·have hcy0:cy=0:=by omega
   have hov2:vl out=((a+b:Nat):Int):=by
    rw[List.take_of_length_le (by omega),List.take_of_length_le (by omega),qS,qS,hcy0]at hov
    simp at hov;omega
   simp(disch:=omega)only[go_sem,h1,h2,h3]
   refine qx (j0 true out (a+b) (by omega) hog hov2) (by simp(disch:=omega)only[go_sem]) ?_
   rintro r hs (⟨h0,rfl,rfl⟩|⟨zs,rfl,rfl⟩)
   ·refine⟨⟨by simp,by simp(disch:=omega)only[go_sem]⟩,?_⟩
    simp(disch:=omega)only[go_sem]
    refine qm [] [] [] [.ag [.v (.slice none 0 0)]] rfl (by simp(disch:=omega)only[go_sem]) (by simp(disch:=omega)only[go_sem]) (by simp) (by intro _;simp[qW,AV.pu,AV.pu.puL,Ob.pu,za]) (.inl ⟨h0,rfl,rfl⟩)
   ·refine⟨⟨by simp,by simp(disch:=omega)only[go_sem]⟩,?_⟩
    simp(disch:=omega)only[go_sem]
    refine qm [(0,620000000)] [.own 1 (qg (lim (a+b)++zs))] [] [.ag [.rf 0 0 (lim (a+b)).length]] rfl (by simp(disch:=omega)only[go_sem]) (by simp(disch:=omega)only[go_sem]) (by simp) (by intro _;simp[qW,AV.pu,AV.pu.puL,Ob.pu,za]) (.inr ⟨zs,rfl,rfl⟩)
end Go.Ab
namespace Go.Ab
open Go Go.Proofs
set_option maxRecDepth 100000 in
theorem JT(cl:Bool)(A:List Int)(hA:gd A)(b:Nat)(lA:A.length≤1000000)(lB:(lim b).length≤1000000)(m:Nat)(hm:vl A*(b:Int)=(m:Int)):
  Con Tryz.prog 265 cl [.ag [.sl A.length (qg A)],.ag [.sl (lim (b)).length (qg (lim (b)))]] [] (aDO m):=by
 refine Con.of_aw Tryz.func265 rfl Tryz.ntmps265 (by simp) (by simp) (by simp) (W.sound ?_)
 show @W Tryz.prog 80 ⟨_⟩ ⟨fun x σ=>@qV _ _ _ ⟨_⟩ _ ⟨_⟩ x σ⟩ _ _
 have hvb:=qS b
 have hB:=qO b
 generalize lim b=B at*
 simp(disch:=omega)only[go_sem]
 refine⟨by omega,?_⟩
 refine qj (fun x:Nat×List Int=>[(2,.pt 0 0),(3,.pt 1 0),(4,.pt 2 0),(5,.rf 3 0 (A.length+B.length)),(6,.v (.int .i64 x.1))])
  (fun x=>[(0,.own 0 [.sl A.length (qg A)]),(1,.own 0 [.sl B.length (qg B)]),(2,.own 0 [.v (.slice none 0 0)]),(3,.own 1 (qg x.2))])
  (fun x=>x.1≤A.length∧x.2.length=A.length+B.length∧gd x.2∧vl x.2=vl (A.take x.1)*vl B∧∀j,x.1+B.length≤j→x.2.getD j 0=0)
  (fun x=>A.length-x.1) (0,List.replicate (A.length+B.length) 0) ⟨by simp,by simp,zy _,by simp[zT,vl],fun j _=>by
   rw[List.getD_eq_getElem?_getD,List.getElem?_replicate];split<;>rfl⟩
  (Le.lst [(0,40000000),(1,50000000),(2,60000000),(3,190000000)] _ _ rfl (by simp(disch:=omega)only[go_sem];try omega) (by simp(disch:=omega)only[go_sem,show((A.length:Int)+(B.length:Int)).toNat=A.length+B.length by omega])) ?_
 rintro⟨i,out⟩ ⟨hi,hol,hog,hov,hoz⟩
 dsimp only at hi hol hog hov hoz ⊢
 simp(disch:=omega)only[go_sem]
 refine qe (fun h1=>?_) (fun h1=>?_)
 ·have hx:=qJ hA i
  simp(disch:=omega)only[go_sem,h1]
  refine qj (fun x:Nat×List Int×Int=>[(2,.pt 0 0),(3,.pt 1 0),(4,.pt 2 0),(5,.rf 3 0 (A.length+B.length)),(6,.v (.int .i64 i)),(7,.v (.int .i64 x.2.2)),(8,.v (.int .i64 x.1))])
   (fun x=>[(0,.own 0 [.sl A.length (qg A)]),(1,.own 0 [.sl B.length (qg B)]),(2,.own 0 [.v (.slice none 0 0)]),(3,.own 1 (qg x.2.1))])
   (fun x=>x.1≤B.length∧x.2.1.length=A.length+B.length∧gd x.2.1∧(0≤x.2.2∧x.2.2<65536)∧vl x.2.1+65536^(i+x.1)*x.2.2=vl out+65536^i*(A.getD i 0*vl (B.take x.1))∧∀j,i+B.length≤j→x.2.1.getD j 0=0)
   (fun x=>B.length-x.1) (0,out,0) ⟨by simp,hol,hog,by simp,by simp[vl],hoz⟩
   (Le.lst [] _ _ rfl (by simp(disch:=omega)only[go_sem];try omega) (by simp(disch:=omega)only[go_sem])) ?_
  rintro⟨j,o2,cy⟩ ⟨hj,hol2,hog2,hcy,hov2,hoz2⟩
  dsimp only at hj hol2 hog2 hcy hov2 hoz2 ⊢
  simp(disch:=omega)only[go_sem]
  refine qe (fun h2=>?_) (fun h2=>?_)
  ·have hy:=qJ hB j
   have ho:=qJ hog2 (i+j)
   have hxy:=aon hx hy
   have e1:((i:Int)+(j:Int)).toNat=i+j:=by omega
   simp(disch:=omega)only[go_sem,h2]
   refine qn rfl [⟨0,[],[]⟩,⟨1,[],[]⟩,⟨2,[],[]⟩,⟨3,[],[]⟩,⟨4,[],[]⟩,⟨5,[],[]⟩,⟨6,[5],[]⟩,⟨7,[5],[]⟩,⟨8,[5,7],[]⟩,⟨9,[5],[]⟩,⟨10,[5],[]⟩,⟨11,[5,7,10],[]⟩,⟨12,[5,7,10],[]⟩,⟨13,[5,7,10,12],[]⟩,⟨14,[5,7,10],[]⟩,⟨15,[5,7,10],[]⟩,⟨16,[5],[]⟩,⟨17,[],[]⟩,⟨18,[5,7,10,12,15],[]⟩,⟨19,[],[]⟩,⟨20,[],[]⟩] (by kernel_rfl) ?_
   simp(disch:=omega)only[go_sem,e1]
   generalize hq:o2.getD (i+j) 0+A.getD i 0*B.getD j 0+cy=q
   refine⟨by omega,by omega,by omega,by omega,by omega,by omega,by omega,by omega,qh (j+1,o2.set (i+j) (q % 65536),q/65536) [] ⟨by show j+1≤_;omega,by simp[hol2],yQ hog2 (by omega),by show 0≤q/65536∧q/65536<65536;omega,?_,fun k hk=>?_⟩
    (by show B.length-(j+1)<B.length-j;omega) rfl (by simp(disch:=omega)only[go_sem];try omega) (by simp(disch:=omega)only[go_sem])⟩
   ·show vl (o2.set (i+j) (q % 65536))+65536^(i+(j+1))*(q/65536)=vl out+65536^i*(A.getD i 0*vl (B.take (j+1)))
    rw[QN (by omega),zx (by omega),←Nat.add_assoc,Int.pow_succ]
    have e2:(65536:Int)^(i+j)=65536^i*65536^j:=Int.pow_add _ _ _
    have e3:q % 65536+65536*(q/65536)=q:=Int.emod_add_mul_ediv q 65536
    rw[e2]at hov2 ⊢
    generalize (65536:Int)^i=Pi at*
    generalize (65536:Int)^j=Pj at*
    grind
   ·show(o2.set (i+j) (q % 65536)).getD k 0=0
    rw[List.getD_eq_getElem?_getD,List.getElem?_set_ne (by omega),←List.getD_eq_getElem?_getD]
    exact hoz2 k hk
  ·simp(disch:=omega)only[go_sem,h2]
   have e1:((i:Int)+(B.length:Int)).toNat=i+B.length:=by omega
   have hjB:j=B.length:=by omega
   subst hjB
   rw[List.take_length]at hov2
   have hz:=hoz2 (i+B.length) (Nat.le_refl _)
   refine qn rfl [⟨0,[],[]⟩,⟨1,[],[]⟩,⟨2,[],[]⟩,⟨3,[],[]⟩,⟨4,[],[]⟩,⟨5,[],[]⟩,⟨6,[3],[]⟩,⟨7,[3],[]⟩,⟨8,[3],[]⟩,⟨9,[3],[]⟩,⟨10,[3],[]⟩,⟨11,[3],[]⟩,⟨12,[3],[]⟩,⟨13,[3],[]⟩,⟨14,[3,9,13],[]⟩,⟨15,[3],[]⟩,⟨16,[],[]⟩,⟨17,[],[]⟩] (by kernel_rfl) ?_
   simp(disch:=omega)only[go_sem,e1,hz]
   have e0:(0:Int)+cy=cy:=by omega
   refine⟨by omega,by omega,by omega,by omega,qh (i+1,o2.set (i+B.length) cy) [] ⟨by show i+1≤_;omega,by simp[hol2],yQ hog2 hcy,?_,fun k hk=>?_⟩ (by show A.length-(i+1)<A.length-i;omega) rfl (by simp(disch:=omega)only[go_sem];try omega) (by simp(disch:=omega)only[go_sem,e0])⟩
   ·show vl (o2.set (i+B.length) cy)=vl (A.take (i+1))*vl B
    rw[QN (by omega),hz,zx (by omega)]
    generalize (65536:Int)^i=Pi at*
    grind
   ·show(o2.set (i+B.length) cy).getD k 0=0
    rw[List.getD_eq_getElem?_getD,List.getElem?_set_ne (by show i+B.length≠k;omega),←List.getD_eq_getElem?_getD]
    exact hoz2 k (by omega)
 ·simp(disch:=omega)only[go_sem,h1]
  have hiA:i=A.length:=by omega
  subst hiA
  rw[List.take_length,hvb,hm]at hov
  rw[←hol]
  refine qx (j0 true (out) (m) (by omega) (hog) (hov)) (by simp(disch:=omega)only[go_sem]) ?_
  rintro r hs (⟨h0,rfl,rfl⟩|⟨zs,rfl,rfl⟩)
  ·refine⟨⟨by simp,by simp(disch:=omega)only[go_sem]⟩,?_⟩
   simp(disch:=omega)only[go_sem]
   refine qm [] [] [] [.ag [.v (.slice none 0 0)]] rfl (by simp(disch:=omega)only[go_sem]) (by simp(disch:=omega)only[go_sem]) (by simp) (by intro _;simp[qW,AV.pu,AV.pu.puL,Ob.pu,za]) (.inl ⟨h0,rfl,rfl⟩)
  ·refine⟨⟨by simp,by simp(disch:=omega)only[go_sem]⟩,?_⟩
   simp(disch:=omega)only[go_sem]
   refine qm [(0,810000000)] [.own 1 (qg (lim (m)++zs))] [] [.ag [.rf 0 0 (lim (m)).length]] rfl (by simp(disch:=omega)only[go_sem]) (by simp(disch:=omega)only[go_sem]) (by simp) (by intro _;simp[qW,AV.pu,AV.pu.puL,Ob.pu,za]) (.inr ⟨zs,rfl,rfl⟩)
theorem apG(cl:Bool)(a b:Nat)(la:(lim a).length≤1000000)(lb:(lim b).length≤1000000):Con Tryz.prog 265 cl [.ag [.sl (lim (a)).length (qg (lim (a)))],.ag [.sl (lim (b)).length (qg (lim (b)))]] [] (aDO (a*b)):=
 JT cl (lim a) (qO a) b la lb (a*b) (by rw[qS,Int.natCast_mul])
end Go.Ab
namespace Go.Ab
open Go Go.Proofs
def aNY(m:Nat)(r0:Int):AV→List Ob→List Ob→Prop:=fun r hs bs=>
 (m=0∧r=.tu [.ag [.v (.slice none 0 0)],.v (.int .i64 r0)]∧hs=[])∨∃zs,r=.tu [.ag [.rf 0 0 (lim m).length],.v (.int .i64 r0)]∧hs=[.own 1 (qg (lim m++zs))]
theorem Con.natF2{P:Program}{f:FuncId}{args:List AV}{m:Nat}{r0:Int}(h:Con P f false args [] (aNY m r0)):Con P f false args [] (isA (.tu [.ag [.sl (lim (m)).length (qg (lim (m)))],.v (.int .i64 r0)])):=
 Con.frzA <| h.mono fun r hs bs h=>by
  rcases h with⟨rfl,rfl,rfl⟩|⟨zs,rfl,rfl⟩
  ·show qM _ 6 _=_
   rw[ql];rfl
  ·show qM _ 6 _=_
   rw[J5,List.map_cons,List.map_cons,List.map_nil,acY,List.map_cons,List.map_nil,yB (k:=2) (l:=lim m) (zs:=zs) zz rfl]
   rfl
theorem KW(cl:Bool)(A:List Int)(d:Nat)(hA:gd A)(lA:A.length≤1000000)(hd:0<d)(hd2:d<65536)(m:Nat)(hm:vl A/(d:Int)=(m:Int)):
  Con Tryz.prog 279 cl [.ag [.sl A.length (qg A)],.v (.int .i64 d)] [] (aNY m (vl A % d)):=by
 refine Con.of_aw Tryz.func279 rfl Tryz.ntmps279 (by simp) (by simp) (by simp) (W.sound ?_)
 show @W Tryz.prog 42 ⟨_⟩ ⟨fun x σ=>@qV _ _ _ ⟨_⟩ _ ⟨_⟩ x σ⟩ _ _
 simp(disch:=omega)only[go_sem]
 refine⟨by omega,?_⟩
 refine qj (fun x:Nat×List Int×Int=>[(1,.v (.int .i64 d)),(2,.pt 0 0),(4,.pt 1 0),(6,.rf 2 0 A.length),(7,.v (.int .i64 x.2.2)),(8,.v (.int .i64 ((x.1:Int)-1)))])
  (fun x=>[(0,.own 0 [.sl A.length (qg A)]),(1,.own 0 [.v (.slice none 0 0)]),(2,.own 1 (qg x.2.1))])
  (fun x=>x.1≤A.length∧x.2.1.length=A.length∧gd x.2.1∧x.2.2=vl (A.drop x.1) % d∧vl (x.2.1.drop x.1)=vl (A.drop x.1)/d)
  (fun x=>x.1) (A.length,List.replicate A.length 0,0) ⟨Nat.le_refl _,by simp,zy _,by simp[vl],by simp[vl]⟩
  (Le.lst [(0,40000000),(1,60000000),(2,150000000)] _ _ rfl (by simp(disch:=omega)only[go_sem,List.length_replicate];try omega) (by simp(disch:=omega)only[go_sem])) ?_
 rintro⟨k,out,rest⟩ ⟨hk,hol,hog,hr,hov⟩
 dsimp only at hk hol hog hr hov ⊢
 have hr0:0≤rest∧rest<d:=by rw[hr];exact⟨Int.emod_nonneg _ (by omega),Int.emod_lt_of_pos _ (by omega)⟩
 simp(disch:=omega)only[go_sem]
 refine qe (fun h1=>?_) (fun h1=>?_)
 ·obtain⟨i,rfl⟩:∃i,k=i+1:=⟨k-1,by omega⟩
  have ei:((i+1:Nat):Int)-1=(i:Nat):=by omega
  have hx:=qJ hA i
  have hq6:0≤(rest*65536+A.getD i 0)/d∧(rest*65536+A.getD i 0)/d<65536:=by
   refine⟨Int.ediv_nonneg (by omega) (by omega),Int.ediv_lt_of_lt_mul (by omega) ?_⟩
   have:rest+1≤(d:Int):=by omega
   have:=Int.mul_le_mul_of_nonneg_left this (show(0:Int)≤65536 by omega)
   omega
  simp(disch:=omega)only[go_sem,h1,ei]
  generalize hq:rest*65536+A.getD i 0=q at*
  refine⟨by omega,by omega,by omega,by omega,by omega,by omega,qh (i,out.set i (q/d),q % d) [] ⟨by show i≤_;omega,by simp[hol],yQ hog hq6,?_,?_⟩ (by show i<i+1;omega) rfl (by simp(disch:=omega)only[go_sem];try omega) (by simp(disch:=omega)only[go_sem])⟩
  ·show q % d=vl (A.drop i) % d
   rw[zF (l:=A) (i:=i) (by omega),←hq,hr]
   have h3:=Int.emod_add_mul_ediv (vl (A.drop (i+1))) d
   rw[show A.getD i 0+65536*vl (A.drop (i+1))=vl (A.drop (i+1)) % d*65536+A.getD i 0+d*(65536*(vl (A.drop (i+1))/d)) by grind,Int.add_mul_emod_self_left]
  ·show vl ((out.set i (q/d)).drop i)=vl (A.drop i)/d
   rw[drop_set (by omega),vl,hov,zF (l:=A) (i:=i) (by omega),←hq,hr]
   have h3:=Int.emod_add_mul_ediv (vl (A.drop (i+1))) d
   rw[show A.getD i 0+65536*vl (A.drop (i+1))=vl (A.drop (i+1)) % d*65536+A.getD i 0+d*(65536*(vl (A.drop (i+1))/d)) by grind,Int.add_mul_ediv_left _ _ (by omega)]
 ·simp(disch:=omega)only[go_sem,h1]
  have:k=0:=by omega
  subst this
  rw[List.drop_zero,List.drop_zero,hm]at hov
  rw[List.drop_zero]at hr
  rw[←hol]
  refine qx (j0 true out m (by omega) hog hov) (by simp(disch:=omega)only[go_sem]) ?_
  rintro r hs (⟨h0,rfl,rfl⟩|⟨zs,rfl,rfl⟩)
  ·refine⟨⟨by simp,by simp(disch:=omega)only[go_sem]⟩,?_⟩
   simp(disch:=omega)only[go_sem]
   rw[hr]
   refine qm [] [] [] [.ag [.v (.slice none 0 0)],.v (.int .i64 (vl A % d))] rfl (by simp(disch:=omega)only[go_sem]) (by simp(disch:=omega)only[go_sem]) (by simp) (by intro _;simp[qW,AV.pu,AV.pu.puL,Ob.pu,za]) (.inl ⟨h0,rfl,rfl⟩)
  ·refine⟨⟨by simp,by simp(disch:=omega)only[go_sem]⟩,?_⟩
   simp(disch:=omega)only[go_sem]
   rw[hr]
   refine qm [(0,420000000)] [.own 1 (qg (lim m++zs))] [] [.ag [.rf 0 0 (lim m).length],.v (.int .i64 (vl A % d))] rfl (by simp(disch:=omega)only[go_sem]) (by simp(disch:=omega)only[go_sem]) (by simp) (by intro _;simp[qW,AV.pu,AV.pu.puL,Ob.pu,za]) (.inr ⟨zs,rfl,rfl⟩)
/-! ### Shifts-/
theorem anN{k:Nat}(hk:k<16):IntKind.i64.wrap (1*2^(min ((k:Int)).toNat 64))=((2^k:Nat):Int):=by
 have e:min ((k:Int)).toNat 64=k:=by omega
 rw[e,Int.one_mul]
 have h:=ym k hk
 rw[Zj (by omega) (by omega),Int.natCast_pow];rfl
theorem apF(cl:Bool)(a k:Nat)(la:(lim a).length≤400000)(hk:k≤5000000):Con Tryz.prog 235 cl [.ag [.sl (lim (a)).length (qg (lim (a)))],.v (.int .i64 k)] [] (aDO (a*2^k)):=by
 refine Con.of_aw Tryz.func235 rfl Tryz.ntmps235 (by simp) (by simp) (by simp) (W.sound ?_)
 show @W Tryz.prog 22 ⟨_⟩ ⟨fun x σ=>@qV _ _ _ ⟨_⟩ _ ⟨_⟩ x σ⟩ _ _
 have hz:((lim a).length:Int)=0→a=0:=fun h=>qD.1 (List.length_eq_zero_iff.1 (by omega))
 have hvA:=qS a
 have gA:=qO a
 generalize hLA:lim a=A at*
 simp(disch:=omega)only[go_sem]
 refine qe (fun h1=>?_) (fun h1=>?_)
 ·simp(disch:=omega)only[go_sem,h1]
  have h0:=hz h1
  subst h0
  refine qm [] [] [] [.ag [.v (.slice none 0 0)]] rfl (by simp(disch:=omega)only[go_sem]) (by simp(disch:=omega)only[go_sem]) (by simp) (by intro _;simp[qW,AV.pu,AV.pu.puL,Ob.pu,za]) (.inl ⟨by simp,rfl,rfl⟩)
 ·simp(disch:=omega)only[go_sem,h1]
  refine qn rfl [⟨0,[],[]⟩,⟨1,[],[]⟩,⟨3,[],[]⟩,⟨4,[],[]⟩,⟨7,[4],[]⟩,⟨8,[4],[]⟩,⟨9,[4],[]⟩,⟨2,[4],[]⟩,⟨5,[],[]⟩,⟨6,[],[]⟩,⟨10,[],[]⟩,⟨11,[],[]⟩,⟨12,[],[]⟩] (by kernel_rfl) ?_
  have e16:((k:Int)/16).toNat=k/16:=by omega
  have e17:(k:Int) % 16=((k % 16:Nat):Int):=by omega
  have es:IntKind.i64.wrap (1*2^(min ((k:Int) % 16).toNat 64))=((2^(k % 16):Nat):Int):=by rw[e17];exact anN (by omega)
  have hp15:2^(k % 16)≤2^15:=Nat.pow_le_pow_right (by omega) (by omega)
  have ecut:(List.replicate (k/16) (0:Int)).take (k/16)=List.replicate (k/16) 0:=List.take_of_length_le (by simp)
  simp(disch:=omega)only[go_sem,e16,ecut,es]
  refine⟨by omega,by omega,by simp;omega,?_⟩
  refine qa ((aep false (2^(k % 16)) (by omega)).natF) ?_
  simp(disch:=omega)only[go_sem]
  have hvA2:vl (List.replicate (k/16) 0++A)*((2^(k % 16):Nat):Int)=((a*2^k:Nat):Int):=by
   rw[y7,zT,hvA,List.length_replicate]
   have h2:a*2^k=65536^(k/16)*a*2^(k % 16):=by
    have:2^k=65536^(k/16)*2^(k % 16):=by rw[yn,←Nat.pow_add,Nat.div_add_mod]
    rw[this];grind
   rw[h2,Int.natCast_mul,Int.natCast_mul,Int.natCast_pow]
   simp
  have gA2:gd (List.replicate (k/16) 0++A):=qP.2 ⟨zy _,gA⟩
  have lA2:(List.replicate (k/16) (0:Int)++A).length=k/16+A.length:=by simp
  have et:(List.replicate (k/16) (0:Int)++A).take (k/16+A.length)=List.replicate (k/16) 0++A:=List.take_of_length_le (by simp)
  have l2s:(lim (2^(k % 16))).length≤1000000:=by
   have:=qt (m:=2^(k % 16)) (B:=16) (zl.2 (by omega));omega
  refine qx (JT true (List.replicate (k/16) 0++A) gA2 (2^(k % 16)) (by omega) l2s (a*2^k) hvA2) (by simp(disch:=omega)only[go_sem,lA2,et]) ?_
  rintro r hs (⟨h0,rfl,rfl⟩|⟨zs,rfl,rfl⟩)
  ·refine⟨⟨by simp,by simp(disch:=omega)only[go_sem]⟩,?_⟩
   simp(disch:=omega)only[go_sem]
   refine qm [] [] [] [.ag [.v (.slice none 0 0)]] rfl (by simp(disch:=omega)only[go_sem]) (by simp(disch:=omega)only[go_sem]) (by simp) (by intro _;simp[qW,AV.pu,AV.pu.puL,Ob.pu,za]) (.inl ⟨h0,rfl,rfl⟩)
  ·refine⟨⟨by simp,by simp(disch:=omega)only[go_sem]⟩,?_⟩
   simp(disch:=omega)only[go_sem]
   refine qm [(0,230000000)] [.own 1 (qg (lim (a*2^k)++zs))] [] [.ag [.rf 0 0 (lim (a*2^k)).length]] rfl (by simp(disch:=omega)only[go_sem]) (by simp(disch:=omega)only[go_sem]) (by simp) (by intro _;simp[qW,AV.pu,AV.pu.puL,Ob.pu,za]) (.inr ⟨zs,rfl,rfl⟩)
end Go.Ab
namespace Go.Ab
open Go Go.Proofs
theorem KX(a k:Nat)(la:(lim a).length≤1000000)(hk:k≤100000000):Con Tryz.prog 234 false [.ag [.sl (lim (a)).length (qg (lim (a)))],.v (.int .i64 k)] [] (isA (.ag [.sl (lim (a/2^k)).length (qg (lim (a/2^k)))])):=by
 refine Con.frzA ?_
 refine Con.of_aw Tryz.func234 rfl Tryz.ntmps234 (by simp) (by simp) (by simp) (W.sound ?_)
 show @W Tryz.prog 28 ⟨_⟩ ⟨fun x σ=>@qV _ _ _ ⟨_⟩ _ ⟨_⟩ x σ⟩ _ _
 simp(disch:=omega)only[go_sem]
 refine qe (fun h1=>?_) (fun h1=>?_)
 ·simp(disch:=omega)only[go_sem,h1]
  have h0:a/2^k=0:=by
   refine Nat.div_eq_of_lt (Nat.lt_of_lt_of_le (ZC a) ?_)
   rw[yn];exact Nat.pow_le_pow_right (by omega) (by omega)
  rw[h0,ql]
  exact qk
 ·simp(disch:=omega)only[go_sem,h1]
  refine qn rfl [⟨0,[],[]⟩,⟨1,[],[]⟩,⟨2,[1],[]⟩,⟨3,[1],[]⟩,⟨4,[],[]⟩,⟨5,[],[]⟩,⟨6,[1,4],[]⟩,⟨7,[1,4],[]⟩,⟨8,[1,4],[]⟩,⟨13,[1,4],[]⟩,⟨9,[],[70000000]⟩,⟨10,[],[70000000]⟩,⟨11,[],[70000000]⟩,⟨12,[],[70000000]⟩,⟨14,[],[]⟩,⟨15,[],[]⟩] (by kernel_rfl) ?_
  have e16:((k:Int)/16).toNat=k/16:=by omega
  have e17:(k:Int) % 16=((k % 16:Nat):Int):=by omega
  have e18:(((lim a).length:Int)-(k:Int)/16).toNat=((lim a).drop (k/16)).length:=by simp;omega
  have es:IntKind.i64.wrap (1*2^(min ((k:Int) % 16).toNat 64))=((2^(k % 16):Nat):Int):=by rw[e17];exact anN (by omega)
  have hp15:2^(k % 16)≤2^15:=Nat.pow_le_pow_right (by omega) (by omega)
  have hp0:0<2^(k % 16):=Nat.pow_pos (by omega)
  have hvD:=adQ (qO a) (i:=k/16) (by omega)
  have gD:=jm (qO a) (k/16)
  have hlD:((lim a).drop (k/16)).length≤1000000:=by simp;omega
  have hm:vl ((lim a).drop (k/16))/((2^(k % 16):Nat):Int)=((a/2^k:Nat):Int):=by
   rw[←hvD,qS]
   have:a/2^k=a/65536^(k/16)/2^(k % 16):=by rw[Nat.div_div_eq_div_mul,yn,←Nat.pow_add,Nat.div_add_mod]
   rw[this,Int.natCast_ediv,Int.natCast_ediv,Int.natCast_pow 65536];rfl
  have et:((lim a).drop (k/16)).take ((lim a).drop (k/16)).length=(lim a).drop (k/16):=List.take_length
  simp(disch:=omega)only[go_sem,e16,e18,et,es]
  generalize (lim a).drop (k/16)=D at*
  refine⟨by omega,by omega,?_⟩
  refine qa ((KW false D (2^(k % 16)) gD hlD hp0 (by omega) (a/2^k) hm).natF2) ?_
  simp(disch:=omega)only[go_sem]
  exact qk
theorem aiV(a:Nat)(la:(lim a).length≤2^40):Con Tryz.prog 290 true [.ag [.sl (lim (a)).length (qg (lim (a)))]] [] (isA (.v (.int .i64 (bl a)))):=by
 refine Con.of_aw Tryz.func290 rfl Tryz.ntmps290 (by simp) (by simp) (by simp) (W.sound ?_)
 show @W Tryz.prog 29 ⟨_⟩ ⟨fun x σ=>@qV _ _ _ ⟨_⟩ _ ⟨_⟩ x σ⟩ _ _
 simp(disch:=omega)only[go_sem]
 refine qe (fun h1=>?_) (fun h1=>?_)
 ·simp(disch:=omega)only[go_sem,h1]
  have:a=0:=qD.1 (List.length_eq_zero_iff.1 (by omega))
  subst this
  rw[yA]
  exact qu
 ·have hm:a≠0:=fun e=>by rw[e,ql]at h1;simp at h1
  have e2:(((lim a).length:Int)-1).toNat=(lim a).length-1:=by omega
  have ht:=ZE hm
  have hb:=aqe hm
  have eq:(lim a).getD ((lim a).length-1) 0=((a/65536^((lim a).length-1):Nat):Int):=by rw[zY,Nat.mod_eq_of_lt ht.2]
  generalize a/65536^((lim a).length-1)=q at*
  simp(disch:=omega)only[go_sem,h1,e2,eq]
  refine⟨by omega,by omega,?_⟩
  refine qj (fun x:Nat×Nat=>[(3,.v (.int .i64 x.1)),(4,.v (.int .i64 x.2))]) (fun _=>[]) (fun x=>x.1+bl x.2=bl a∧x.2<65536∧x.1≤2^45) (fun x=>x.2) (16*((lim a).length-1),q) ⟨hb.symm,ht.2,by show 16*((lim a).length-1)≤2^45;omega⟩ (Le.lst [] _ _ rfl (by simp(disch:=omega)only[go_sem];try omega) (by simp(disch:=omega)only[go_sem])) ?_
  rintro⟨n,x⟩ ⟨hn,hx,hn2⟩
  dsimp only at hn hx hn2 ⊢
  simp(disch:=omega)only[go_sem]
  refine qe (fun h2=>?_) (fun h2=>?_)
  ·simp(disch:=omega)only[go_sem,h2]
   have hd:=aD9 (x:=x) (by omega)
   have hp:=zl.2 (show x<2^16 by omega)
   refine qh (n+1,x/2) [] ⟨by show n+1+bl (x/2)=bl a;omega,by show x/2<65536;omega,?_⟩ (by show x/2<x;omega) rfl (by simp(disch:=omega)only[go_sem];try omega) (by simp(disch:=omega)only[go_sem])
   show n+1≤2^45
   have:=JX (m:=a)
   omega
  ·simp(disch:=omega)only[go_sem,h2]
   have:x=0:=by omega
   subst this
   rw[yA]at hn
   refine qb (by simp(disch:=omega)only[go_sem]) (by simp(disch:=omega)only[go_sem]) ⟨?_,rfl,rfl⟩
   simp[qW];omega
theorem Qt(m:Nat)(i:Int)(hl:(lim m).length≤2^40)(hi:0≤i)(hi2:i<2^62):Con Tryz.prog 138 true [.ag [.sl (lim (m)).length (qg (lim (m)))],.v (.int .i64 i)] [] (isA (.v (.int .i64 ((m/2^i.toNat % 2:Nat):Int)))):=by
 refine Con.of_w (rs:=[.tmp 4]) Tryz.func138 rfl Tryz.ntmps138 rfl ?_
 obtain⟨k,rfl⟩:=Int.eq_ofNat_of_zero_le hi
 rw[Int.toNat_natCast]
 have h0:¬((k:Int)<0):=by omega
 have e16:((k:Int)/16).toNat=k/16:=by omega
 have em:min ((k:Int) % 16).toNat 64=k % 16:=by omega
 have hb:=aqh m k
 simp(disch:=omega)only[go_sem,h0]
 refine qe (fun h1=>?_) (fun h1=>?_)
 ·simp(disch:=omega)only[go_sem,h1]
  have:m/2^k % 2=0:=by
   rw[←hb]
   have h2:=zY m (k/16)
   rw[List.getD_eq_getElem?_getD,List.getElem?_eq_none (by omega)]at h2
   have h3:m/65536^(k/16) % 65536=0:=by simp only[Option.getD_none]at h2;omega
   rw[h3];simp
  rw[this]
  exact qu
 ·have hx:=qJ (qO m) (k/16)
  have hp:(0:Int)<2^(k % 16):=Int.pow_pos (by omega)
  have efd:∀x:Int,x.fdiv (2^(k % 16))=x/2^(k % 16):=fun x=>Int.fdiv_eq_ediv_of_nonneg _ (Int.le_of_lt hp)
  have hq:0≤(lim m).getD (k/16) 0/2^(k % 16)∧(lim m).getD (k/16) 0/2^(k % 16)<65536:=by
   refine⟨Int.ediv_nonneg hx.1 (Int.le_of_lt hp),Int.lt_of_le_of_lt (Int.ediv_le_self _ hx.1) hx.2⟩
  have hr:(lim m).getD (k/16) 0/2^(k % 16) % 2=((m/2^k % 2:Nat):Int):=by
   rw[←hb,zY]
   generalize m/65536^(k/16) % 65536=x
   rw[Int.natCast_emod,Int.natCast_ediv,Int.natCast_pow];rfl
  simp(disch:=omega)only[go_sem,h1,e16,em,efd,hr]
  refine⟨by omega,by omega,by omega,?_⟩
  exact qu
theorem aqM{m i:Nat}(hz:∀j,j<i→m/2^j % 2=0)(h1:m/2^i % 2=1):tz m=i:=by
 have key:∀k,k≤i→2^k*(m/2^k)=m:=by
  intro k
  induction k with
  |zero=>intro _;simp
  |succ k ih=>
   intro hk
   have h2:=ih (by omega)
   have h3:=hz k (by omega)
   have h4:m/2^(k+1)=m/2^k/2:=by rw[Nat.pow_succ,Nat.div_div_eq_div_mul]
   rw[h4,Nat.pow_succ,Nat.mul_assoc,show 2*(m/2^k/2)=m/2^k by omega];exact h2
 refine j4 (a:=m/2^i/2) ?_
 have:=key i (Nat.le_refl _)
 rw[show 2*(m/2^i/2)+1=m/2^i by omega];exact this.symm
theorem Z0(m:Nat)(hl:(lim m).length≤2^40):Con Tryz.prog 233 true [.ag [.sl (lim (m)).length (qg (lim (m)))]] [] (isA (.v (.int .i64 (tz m)))):=by
 refine Con.of_w (rs:=[.tmp 2]) Tryz.func233 rfl Tryz.ntmps233 rfl ?_
 simp(disch:=omega)only[go_sem]
 refine qj (fun i:Nat=>[(1,.pt 0 0),(3,.v (.int .i64 i))]) (fun _=>[(0,.own 0 [.sl (lim (m)).length (qg (lim (m)))])]) (fun i=>i≤16*(lim m).length∧∀j,j<i→m/2^j % 2=0) (fun i=>16*(lim m).length-i) 0 ⟨by omega,fun j hj=>by omega⟩ (Le.lst [(0,30000000)] _ _ rfl (by simp(disch:=omega)only[go_sem];try omega) (by simp(disch:=omega)only[go_sem])) ?_
 rintro i ⟨hi,hz⟩
 simp(disch:=omega)only[go_sem]
 refine qe (fun h1=>?_) (fun h1=>?_)
 ·simp(disch:=omega)only[go_sem,h1]
  refine qc (Qt m i hl (by omega) (by omega)) ?_
  simp(disch:=omega)only[go_sem]
  refine qe (fun h2=>?_) (fun h2=>?_)
  ·simp(disch:=omega)only[go_sem,h2]
   have:=aqM hz (by omega)
   rw[this]
   exact qu
  ·simp(disch:=omega)only[go_sem,h2]
   refine qh (i+1) [] ⟨by omega,fun j hj=>?_⟩ (by show 16*(lim m).length-(i+1)<16*(lim m).length-i;omega) rfl (by simp(disch:=omega)only[go_sem];try omega) (by simp(disch:=omega)only[go_sem])
   rcases(by omega:j<i∨j=i)with h|h
   ·exact hz j h
   ·subst h;omega
 ·simp(disch:=omega)only[go_sem,h1]
  have hm:m=0:=by
   have h3:=JX (m:=m)
   rcases Nat.eq_zero_or_pos m with h|h
   ·exact h
   ·have h4:=j5 (n:=m) (by omega)
    have h5:=(jE (n:=m) (by omega)).1
    have:=hz (tz m) (by omega)
    omega
  subst hm
  rw[ajw]
  exact qu
theorem zC(m:Nat)(hm:m<2^63):Con Tryz.prog 262 true [.ag [.sl (lim (m)).length (qg (lim (m)))]] [] (isA (.v (.int .i64 m))):=by
 refine Con.of_aw Tryz.func262 rfl Tryz.ntmps262 (by simp) (by simp) (by simp) (W.sound ?_)
 show @W Tryz.prog 22 ⟨_⟩ ⟨fun x σ=>@qV _ _ _ ⟨_⟩ _ ⟨_⟩ x σ⟩ _ _
 simp(disch:=omega)only[go_sem]
 have hl:(lim m).length≤4:=jL.2 (by omega)
 have hb:∀i,i≤(lim m).length→0≤vl ((lim m).drop i)∧vl ((lim m).drop i)<2^63:=fun i hi=>by
  have h1:=qL (jm (qO m) i)
  have h2:=qT (lim m) i hi
  have h3:=qL (zL (qO m) i)
  have hp:(0:Int)<65536^i:=Int.pow_pos (by omega)
  rw[qS]at h2
  have h4:=Int.mul_le_mul_of_nonneg_right (show(1:Int)≤65536^i by omega) h1
  omega
 refine qj (fun k:Nat=>[(1,.pt 0 0),(3,.v (.int .i64 (vl ((lim m).drop k)))),(4,.v (.int .i64 ((k:Int)-1)))]) (fun _=>[(0,.own 0 [.sl (lim (m)).length (qg (lim (m)))])]) (fun k=>k≤(lim m).length) (fun k=>k) (lim m).length (Nat.le_refl _) (Le.lst [(0,30000000)] _ _ rfl (by simp(disch:=omega)only[go_sem,List.drop_length,vl];try omega) (by simp(disch:=omega)only[go_sem])) ?_
 intro k hk
 have hbk:=hb k hk
 simp(disch:=omega)only[go_sem]
 refine qe (fun h1=>?_) (fun h1=>?_)
 ·obtain⟨i,rfl⟩:∃i,k=i+1:=⟨k-1,by omega⟩
  have ei:((i+1:Nat):Int)-1=(i:Nat):=by omega
  have hx:=qJ (qO m) i
  have hbi:=hb i (by omega)
  have hd:=zF (l:=lim m) (i:=i) (by omega)
  have e2:vl ((lim m).drop (i+1))*65536+(lim m).getD i 0=vl ((lim m).drop i):=by omega
  simp(disch:=omega)only[go_sem,h1,ei,e2]
  refine⟨by omega,by omega,qh i [] (by show i≤_;omega) (by show i<i+1;omega) rfl (by simp(disch:=omega)only[go_sem];try omega) (by simp(disch:=omega)only[go_sem])⟩
 ·have:k=0:=by omega
  subst this
  have e2:vl ((lim m).drop 0)=(m:Int):=by rw[List.drop_zero,qS]
  simp(disch:=omega)only[go_sem,h1,e2]
  exact qb (by simp(disch:=omega)only[go_sem]) (by simp(disch:=omega)only[go_sem]) ⟨by simp[qW,qS],rfl,rfl⟩
end Go.Ab
namespace Go.Ab
open Go Go.Proofs
theorem aN2(m:Nat):decide ((0:Int)<((lim m).length:Int))=decide (m≠0):=by
 rw[decide_eq_decide]
 exact⟨fun h e=>by rw[e,ql]at h;simp at h,fun h=>by have:=QS h;omega⟩
theorem Z1(m:Nat)(hl:(lim m).length≤2^39):Con Tryz.prog 259 false [.sl (lim (m)).length (qg (lim (m)))] [] (isA (.ag [.sl (lim (m)).length (qg (lim (m)))])):=(j0 false (lim m) m hl (qO m) (qS m)).natF
theorem yy(n:Nat)(hn:n<2^63):Con Tryz.prog 203 false [.v (.int .i64 n)] [] (isA (.ag [.sl (lim (n)).length (qg (lim (n)))])):=(aep false n hn).natF
theorem QK(a b:Nat)(la:(lim a).length≤2000000)(lb:(lim b).length≤2000000):Con Tryz.prog 206 false [.ag [.sl (lim (a)).length (qg (lim (a)))],.ag [.sl (lim (b)).length (qg (lim (b)))]] [] (isA (.ag [.sl (lim (a+b)).length (qg (lim (a+b)))])):=(apH false a b la lb).natF
theorem aiU(a b:Nat)(la:(lim a).length≤1000000)(lb:(lim b).length≤1000000):Con Tryz.prog 265 false [.ag [.sl (lim (a)).length (qg (lim (a)))],.ag [.sl (lim (b)).length (qg (lim (b)))]] [] (isA (.ag [.sl (lim (a*b)).length (qg (lim (a*b)))])):=(apG false a b la lb).natF
theorem q9(a k:Nat)(la:(lim a).length≤400000)(hk:k≤5000000):Con Tryz.prog 235 false [.ag [.sl (lim (a)).length (qg (lim (a)))],.v (.int .i64 k)] [] (isA (.ag [.sl (lim (a*2^k)).length (qg (lim (a*2^k)))])):=(apF false a k la hk).natF
theorem zg(s:Bool)(m:Nat)(hl:(lim m).length≤2^39):Con Tryz.prog 202 false [.v (.bool s),.ag [.sl (lim (m)).length (qg (lim (m)))]] [] (isA (.ag [.v (.bool (s&&decide (m≠0))),.sl (lim (m)).length (qg (lim (m)))])):=by
 refine Con.frzA ?_
 refine Con.of_w (rs:=[.cell 4 27]) Tryz.func202 rfl Tryz.ntmps202 rfl ?_
 simp(disch:=omega)only[go_sem]
 refine qn rfl [⟨0,[],[]⟩,⟨1,[],[]⟩,⟨2,[],[]⟩,⟨3,[],[]⟩,⟨4,[],[]⟩,⟨5,[],[]⟩,⟨6,[],[]⟩,⟨7,[3],[]⟩,⟨8,[3],[]⟩,⟨9,[3],[]⟩,⟨10,[],[]⟩,⟨11,[],[]⟩] (by kernel_rfl) ?_
 simp(disch:=omega)only[go_sem]
 refine zI (fun h1=>?_) (fun h1=>?_)
 ·simp(disch:=omega)only[go_sem,h1,aN2]
  refine qa (Z1 m hl) ?_
  simp(disch:=omega)only[go_sem]
  exact qk (hp:=by simp(disch:=omega)only[go_sem,h1,Bool.true_and])
 ·simp(disch:=omega)only[go_sem,h1]
  refine qa (Z1 m hl) ?_
  simp(disch:=omega)only[go_sem]
  exact qk (hp:=by simp(disch:=omega)only[go_sem,h1,Bool.false_and])
theorem aeo(n:Int)(h: -9223372036854775808≤n∧n<9223372036854775808):Con Tryz.prog 129 false [.v (.int .i64 n)] [] (isA (.ag [.v (.bool (decide (n<0))),.sl (lim (n.natAbs)).length (qg (lim (n.natAbs)))])):=by
 refine Con.frzA ?_
 refine Con.of_aw Tryz.func129 rfl Tryz.ntmps129 (by simp) (by simp) (by simp) (W.sound ?_)
 show @W Tryz.prog 15 ⟨_⟩ ⟨fun x σ=>@qV _ _ _ ⟨_⟩ _ ⟨_⟩ x σ⟩ _ _
 simp(disch:=omega)only[go_sem]
 refine qe (fun h1=>?_) (fun h1=>?_)
 ·simp(disch:=omega)only[go_sem,h1]
  have e1:0-(n+1)=(((0-(n+1)).toNat:Nat):Int):=by omega
  refine qa (yy (0-(n+1)).toNat (by omega)) ?_ (by simp(disch:=omega)only[go_sem,←e1])
  simp(disch:=omega)only[go_sem]
  refine qa (yy 1 (by omega)) ?_
  simp(disch:=omega)only[go_sem]
  have l1:=qt (m:=(0-(n+1)).toNat) (B:=64) (zl.2 (by omega))
  have l2:=qt (m:=1) (B:=64) (by decide)
  refine qa (QK (0-(n+1)).toNat 1 (by omega) (by omega)) ?_
  simp(disch:=omega)only[go_sem]
  have e2:(0-(n+1)).toNat+1=n.natAbs:=by omega
  have l3:=qt (m:=(0-(n+1)).toNat+1) (B:=64) (zl.2 (by omega))
  refine qa (zg true ((0-(n+1)).toNat+1) (by omega)) ?_
  simp(disch:=omega)only[go_sem]
  refine qF (by simp(disch:=omega)only[go_sem]) ?_
  show qM _ 6 _=_
  have e3:decide (n.natAbs≠0)=true:=by simp;omega
  rw[e2]
  simp(disch:=omega)only[go_sem,e3,h1,Bool.true_and]
 ·simp(disch:=omega)only[go_sem,h1]
  have e1:n=((n.natAbs:Nat):Int):=by omega
  refine qa (yy n.natAbs (by omega)) ?_ (by simp(disch:=omega)only[go_sem,←e1])
  simp(disch:=omega)only[go_sem]
  have l3:=qt (m:=n.natAbs) (B:=64) (zl.2 (by omega))
  refine qa (zg false n.natAbs (by omega)) ?_
  simp(disch:=omega)only[go_sem]
  exact qk (hp:=by simp(disch:=omega)only[go_sem,h1,Bool.false_and])
theorem apA(s1:Bool)(m1:Nat)(s2:Bool)(m2:Nat)(h1:bl m1≤4000000)(h2:bl m2≤4000000):Con Tryz.prog 213 false [.ag [.v (.bool (s1)),.sl (lim (m1)).length (qg (lim (m1)))],.ag [.v (.bool (s2)),.sl (lim (m2)).length (qg (lim (m2)))]] [] (isA (.ag [.v (.bool ((s1 != s2)&&decide (m1*m2≠0))),.sl (lim (m1*m2)).length (qg (lim (m1*m2)))])):=by
 refine Con.frzA ?_
 refine Con.of_w (rs:=[.cell 4 27]) Tryz.func213 rfl Tryz.ntmps213 rfl ?_
 simp(disch:=omega)only[go_sem]
 have l1:=qt h1
 have l2:=qt h2
 refine qn rfl [⟨0,[],[]⟩,⟨1,[],[]⟩,⟨2,[1],[]⟩,⟨3,[1],[]⟩,⟨4,[],[]⟩,⟨5,[1,3],[]⟩,⟨6,[1,3],[]⟩,⟨7,[1,3,6],[]⟩,⟨8,[1,3,6],[]⟩,⟨9,[1,3],[]⟩,⟨10,[],[]⟩,⟨11,[],[]⟩] (by kernel_rfl) ?_
 simp(disch:=omega)only[go_sem]
 refine qa (aiU m1 m2 (by omega) (by omega)) ?_
 simp(disch:=omega)only[go_sem]
 have l3:=qt (Nat.le_trans (zJ m1 m2) (Nat.add_le_add h1 h2))
 refine qa (zg (s1 != s2) (m1*m2) (by omega)) ?_
 simp(disch:=omega)only[go_sem]
 exact qk
theorem zU(s:Bool)(m:Nat)(e:Int)(hm:bl m≤8000000)(he: -2^40≤e∧e≤2^40):Con Tryz.prog 156 false [.ag [.v (.bool (s)),.sl (lim (m)).length (qg (lim (m)))],.v (.int .i64 e)] [] (isA (.ag [.v (.bool (oS s m)),.sl (lim (oM m)).length (qg (lim (oM m))),.v (.int .i64 (oE m e))])):=by
 refine Con.frzA ?_
 refine Con.of_aw Tryz.func156 rfl Tryz.ntmps156 (by simp) (by simp) (by simp) (W.sound ?_)
 show @W Tryz.prog 26 ⟨_⟩ ⟨fun x σ=>@qV _ _ _ ⟨_⟩ _ ⟨_⟩ x σ⟩ _ _
 simp(disch:=omega)only[go_sem]
 have hl:=qt hm
 refine qe (fun h1=>?_) (fun h1=>?_)
 ·simp(disch:=omega)only[go_sem,h1]
  have h0:m=0:=qD.1 (List.length_eq_zero_iff.1 (by omega))
  subst h0
  refine qF (by simp(disch:=omega)only[go_sem]) ?_
  show qM _ 6 _=_
  simp only[oS,jv,oE,ql,if_true]
  simp(disch:=omega)only[go_sem]
 ·have h0:m≠0:=fun e=>h1 (by rw[e,ql];rfl)
  have ht:=j5 h0
  simp(disch:=omega)only[go_sem,h1]
  refine qc (Z0 m (by omega)) ?_
  simp(disch:=omega)only[go_sem]
  refine qn rfl [⟨0,[],[]⟩,⟨1,[],[]⟩,⟨2,[1],[]⟩,⟨3,[1],[]⟩,⟨4,[1,3],[]⟩,⟨7,[1,3],[]⟩,⟨8,[1,3],[]⟩,⟨9,[1,3],[]⟩,⟨5,[1],[]⟩,⟨6,[],[]⟩,⟨10,[],[]⟩,⟨11,[],[]⟩] (by kernel_rfl) ?_
  simp(disch:=omega)only[go_sem]
  refine qa (KX m (tz m) (by omega) (by omega)) ?_
  simp(disch:=omega)only[go_sem]
  have l3:=qt (Nat.le_trans (jH m (2^tz m)) hm)
  refine qa (zg s (m/2^tz m) (by omega)) ?_
  simp(disch:=omega)only[go_sem]
  refine qF (by simp(disch:=omega)only[go_sem]) ?_
  show qM _ 6 _=_
  have h3:decide (m/2^tz m≠0)=true:=by
   have:=(jE h0).1
   simp only[decide_eq_true_eq];omega
  simp only[oS,oM,oE,if_neg h0]
  simp(disch:=omega)only[go_sem,h3,Bool.and_true]
theorem yx(s1:Bool)(m1:Nat)(e1:Int)(s2:Bool)(m2:Nat)(e2:Int)(h1:bl m1≤4000000)(h2:bl m2≤4000000)(he1: -2^39≤e1∧e1≤2^39)(he2: -2^39≤e2∧e2≤2^39):
  Con Tryz.prog 140 false [.ag [.v (.bool (s1)),.sl (lim (m1)).length (qg (lim (m1))),.v (.int .i64 (e1))],.ag [.v (.bool (s2)),.sl (lim (m2)).length (qg (lim (m2))),.v (.int .i64 (e2))]] [] (isA (.ag [.v (.bool (oS ((s1 != s2)&&decide (m1*m2≠0)) (m1*m2))),.sl (lim (oM (m1*m2))).length (qg (lim (oM (m1*m2)))),.v (.int .i64 (oE (m1*m2) (e1+e2)))])):=by
 refine Con.frzA ?_
 refine Con.of_w (rs:=[.cell 4 29]) Tryz.func140 rfl Tryz.ntmps140 rfl ?_
 simp(disch:=omega)only[go_sem]
 refine qn rfl [⟨0,[],[]⟩,⟨1,[],[]⟩,⟨2,[1],[]⟩,⟨3,[1],[]⟩,⟨5,[1,3],[]⟩,⟨6,[1,3],[]⟩,⟨7,[1,3,6],[]⟩,⟨8,[1,3,6],[]⟩,⟨9,[1,3],[]⟩,⟨4,[6,8],[]⟩,⟨10,[],[]⟩,⟨11,[],[]⟩] (by kernel_rfl) ?_
 simp(disch:=omega)only[go_sem]
 refine qa (apA s1 m1 s2 m2 h1 h2) ?_
 simp(disch:=omega)only[go_sem]
 have h3:=Nat.le_trans (zJ m1 m2) (Nat.add_le_add h1 h2)
 refine qa (zU ((s1 != s2)&&decide (m1*m2≠0)) (m1*m2) (e1+e2) (by omega) (by omega)) ?_
 simp(disch:=omega)only[go_sem]
 exact qk
theorem zj(s:Bool)(m:Nat)(e:Int)(hm:(lim m).length≤2^40)(he: -2^40≤e∧e≤2^40):Con Tryz.prog 260 true [.ag [.v (.bool (s)),.sl (lim (m)).length (qg (lim (m))),.v (.int .i64 (e))]] [] (isA (.v (.int .i64 (if m=0 then 0 else e+(bl m:Int))))):=by
 refine Con.of_w (rs:=[.tmp 2]) Tryz.func260 rfl Tryz.ntmps260 rfl ?_
 simp(disch:=omega)only[go_sem]
 refine qe (fun h1=>?_) (fun h1=>?_)
 ·simp(disch:=omega)only[go_sem,h1]
  have h0:m=0:=qD.1 (List.length_eq_zero_iff.1 (by omega))
  rw[if_pos h0]
  exact qu
 ·have h0:m≠0:=fun e=>h1 (by rw[e,ql];rfl)
  have:=JX (m:=m)
  simp(disch:=omega)only[go_sem,h1]
  refine qn rfl [⟨0,[],[]⟩,⟨1,[],[]⟩,⟨2,[1],[]⟩,⟨3,[1],[]⟩,⟨4,[1],[]⟩,⟨5,[1],[]⟩,⟨6,[],[]⟩,⟨7,[],[]⟩] (by kernel_rfl) ?_
  simp(disch:=omega)only[go_sem]
  refine qc (aiV m hm) ?_
  simp(disch:=omega)only[go_sem]
  rw[if_neg h0]
  exact qu
end Go.Ab
namespace Go.Ab
open Go Go.Proofs
theorem Z2(a b:Nat)(la:(lim a).length≤2^40)(lb:(lim b).length≤2^40):
  Con Tryz.prog 236 true [.ag [.sl (lim (a)).length (qg (lim (a)))],.ag [.sl (lim (b)).length (qg (lim (b)))]] [] (isA (.v (.int .i64 (zw a b)))):=by
 refine Con.of_w (rs:=[.tmp 4]) Tryz.func236 rfl Tryz.ntmps236 rfl ?_
 simp(disch:=omega)only[go_sem]
 refine qY (fun h1=>?_) (fun h1=>?_)
 ·simp(disch:=omega)only[go_sem,h1]
  refine qe (fun h2=>?_) (fun h2=>?_)
  ·simp(disch:=omega)only[go_sem,h2]
   have:=Qk (a:=a) (b:=b) (by omega)
   rw[show zw (a:Int) (b:Int)= -1 by unfold zw;rw[if_pos (by omega)]]
   exact qu
  ·simp(disch:=omega)only[go_sem,h2]
   have:=Qk (a:=b) (b:=a) (by omega)
   rw[show zw (a:Int) (b:Int)=1 by unfold zw;rw[if_neg (by omega),if_pos (by omega)]]
   exact qu
 ·simp(disch:=omega)only[go_sem,h1]
  have hl:(lim a).length=(lim b).length:=by omega
  refine qj (fun k:Nat=>[(2,.pt 40000000 0),(3,.pt 50000000 0),(5,.v (.int .i64 ((k:Int)-1)))])
   (fun _=>[(40000000,.own 0 [.sl (lim (a)).length (qg (lim (a)))]),(50000000,.own 0 [.sl (lim (b)).length (qg (lim (b)))])]) (fun k=>k≤(lim a).length∧(lim a).drop k=(lim b).drop k) (fun k=>k) (lim a).length ⟨Nat.le_refl _,by rw[List.drop_length,hl,List.drop_length]⟩ (Le.lst [] _ _ rfl (by simp(disch:=omega)only[go_sem];try omega) (by simp(disch:=omega)only[go_sem])) ?_
  rintro k ⟨hk,hd⟩
  simp(disch:=omega)only[go_sem]
  refine qe (fun h2=>?_) (fun h2=>?_)
  ·obtain⟨i,rfl⟩:∃i,k=i+1:=⟨k-1,by omega⟩
   have ei:((i+1:Nat):Int)-1=(i:Nat):=by omega
   have hva:=qS a
   have hvb:=qS b
   simp(disch:=omega)only[go_sem,h2,ei]
   refine qn rfl [⟨0,[],[]⟩,⟨1,[],[]⟩,⟨2,[1],[]⟩,⟨3,[],[]⟩,⟨4,[],[]⟩,⟨5,[1,4],[]⟩,⟨6,[1,4],[]⟩,⟨7,[1,4,6],[]⟩,⟨8,[1,4],[]⟩,⟨9,[1,4],[]⟩,⟨10,[],[]⟩] (by kernel_rfl) ?_
   simp(disch:=omega)only[go_sem,ei]
   refine⟨by omega,by omega,by omega,by omega,?_⟩
   refine qe (fun h3=>?_) (fun h3=>?_)
   ·simp(disch:=omega)only[go_sem,h3]
    have:=Q7 (qO a) (qO b) (by omega) hl hd h3
    rw[show zw (a:Int) (b:Int)= -1 by unfold zw;rw[if_pos (by omega)]]
    exact qu
   ·simp(disch:=omega)only[go_sem,h3]
    refine qn rfl [⟨0,[],[]⟩,⟨1,[],[]⟩,⟨2,[1],[]⟩,⟨3,[],[]⟩,⟨4,[],[]⟩,⟨5,[1,4],[]⟩,⟨6,[1,4],[]⟩,⟨7,[1,4,6],[]⟩,⟨8,[1,4],[]⟩,⟨9,[1,4],[]⟩,⟨10,[],[]⟩] (by kernel_rfl) ?_
    simp(disch:=omega)only[go_sem,ei]
    refine⟨by omega,by omega,by omega,by omega,?_⟩
    refine qe (fun h4=>?_) (fun h4=>?_)
    ·simp(disch:=omega)only[go_sem,h4]
     have:=Q7 (qO b) (qO a) (by omega) hl.symm hd.symm h4
     rw[show zw (a:Int) (b:Int)=1 by unfold zw;rw[if_neg (by omega),if_pos (by omega)]]
     exact qu
    ·simp(disch:=omega)only[go_sem,h4]
     refine qh i [] ⟨by omega,?_⟩ (by show i<i+1;omega) rfl (by simp(disch:=omega)only[go_sem];try omega) (by simp(disch:=omega)only[go_sem])
     have h5:(lim a).getD i 0=(lim b).getD i 0:=by omega
     rw[yu (l:=lim a) (by omega),yu (l:=lim b) (by omega),h5,hd]
  ·simp(disch:=omega)only[go_sem,h2]
   have:k=0:=by omega
   subst this
   rw[List.drop_zero,List.drop_zero]at hd
   have:=jM hd
   subst this
   rw[show zw (a:Int) (a:Int)=0 by simp[zw]]
   exact qu
theorem apD(cl:Bool)(a b:Nat)(hle:b≤a)(la:(lim a).length≤1000000):Con Tryz.prog 258 cl [.ag [.sl (lim (a)).length (qg (lim (a)))],.ag [.sl (lim (b)).length (qg (lim (b)))]] [] (aDO (a-b)):=by
 have lB:(lim b).length≤(lim a).length:=Qj hle
 have hA:=qO a
 have hB:=qO b
 refine Con.of_aw Tryz.func258 rfl Tryz.ntmps258 (by simp) (by simp) (by simp) (W.sound ?_)
 show @W Tryz.prog 45 ⟨_⟩ ⟨fun x σ=>@qV _ _ _ ⟨_⟩ _ ⟨_⟩ x σ⟩ _ _
 simp(disch:=omega)only[go_sem]
 refine qj (fun x:Nat×List Int×Int=>[(2,.pt 2 0),(3,.pt 3 0),(4,.pt 4 0),(5,.rf 1 0 x.2.1.length),(6,.v (.int .i64 x.2.2)),(7,.v (.int .i64 x.1))])
  (fun x=>[(1,.own 1 (qg x.2.1)),(2,.own 0 [.sl (lim (a)).length (qg (lim (a)))]),(3,.own 0 [.sl (lim (b)).length (qg (lim (b)))]),(4,.own 0 [.v (.slice none 0 0)])])
  (fun x=>x.1≤(lim a).length∧x.2.1.length=x.1∧gd x.2.1∧(0≤x.2.2∧x.2.2≤1)∧vl x.2.1-65536^x.1*x.2.2=vl ((lim a).take x.1)-vl ((lim b).take x.1))
  (fun x=>(lim a).length-x.1) (0,[],0) ⟨by simp,rfl,ZM,by simp,by simp[vl]⟩
  ((Le.ghost 5 1 1 (by simp(disch:=omega)only[go_sem]) (by simp(disch:=omega)only[go_sem])).trans (Le.lst [(2,40000000),(3,50000000),(4,60000000)] _ _ rfl (by simp(disch:=omega)only[go_sem]) (by simp(disch:=omega)only[go_sem]))) ?_
 rintro⟨i,out,bo⟩ ⟨hi,hol,hog,hbo,hov⟩
 dsimp only at hi hol hog hbo hov ⊢
 simp(disch:=omega)only[go_sem]
 refine qe (fun h1=>?_) (fun h1=>?_)
 ·have hx:=qJ hA i
  have hy:=qJ hB i
  have hstep:∀z b':Int,(lim a).getD i 0-bo-(lim b).getD i 0=z-65536*b'→vl (out++[z])-65536^(i+1)*b'=vl ((lim a).take (i+1))-vl ((lim b).take (i+1)):=by
   intro z b' hz
   rw[js,qX,qX,hol,Int.pow_succ]
   generalize (65536:Int)^i=Pi at*
   grind
  have hyz:¬i<(lim b).length→(lim b).getD i 0=0:=fun h=>by rw[List.getD_eq_getElem?_getD,List.getElem?_eq_none (by omega)];rfl
  simp(disch:=omega)only[go_sem,h1]
  refine⟨by omega,by omega,qe (fun h2=>?_) (fun h2=>?_)⟩
  ·simp(disch:=omega)only[go_sem,h2]
   refine⟨by omega,by omega,qe (fun h3=>?_) (fun h3=>?_)⟩
   ·simp(disch:=omega)only[go_sem,h3]
    refine⟨by omega,qh (i+1,out++[(lim a).getD i 0-bo-(lim b).getD i 0+65536],1) [(1,440000000)] ⟨by show i+1≤_;omega,by simp[hol],qP.2 ⟨hog,z7.2 (by omega)⟩,by simp,hstep ((lim a).getD i 0-bo-(lim b).getD i 0+65536) 1 (by omega)⟩ (by show(lim a).length-(i+1)<(lim a).length-i;omega) rfl (by simp(disch:=omega)only[go_sem,List.length_append];try omega) (by simp(disch:=omega)only[go_sem])⟩
   ·simp(disch:=omega)only[go_sem,h3]
    refine⟨by omega,qh (i+1,out++[(lim a).getD i 0-bo-(lim b).getD i 0],0) [(1,440000000)] ⟨by show i+1≤_;omega,by simp[hol],qP.2 ⟨hog,z7.2 (by omega)⟩,by simp,hstep ((lim a).getD i 0-bo-(lim b).getD i 0) 0 (by omega)⟩ (by show(lim a).length-(i+1)<(lim a).length-i;omega) rfl (by simp(disch:=omega)only[go_sem,List.length_append];try omega) (by simp(disch:=omega)only[go_sem])⟩
  ·simp(disch:=omega)only[go_sem,h2]
   refine qe (fun h3=>?_) (fun h3=>?_)
   ·simp(disch:=omega)only[go_sem,h3]
    have hy0:=hyz (by omega)
    refine⟨by omega,qh (i+1,out++[(lim a).getD i 0-bo+65536],1) [(1,440000000)] ⟨by show i+1≤_;omega,by simp[hol],qP.2 ⟨hog,z7.2 (by omega)⟩,by simp,hstep ((lim a).getD i 0-bo+65536) 1 (by omega)⟩ (by show(lim a).length-(i+1)<(lim a).length-i;omega) rfl (by simp(disch:=omega)only[go_sem,List.length_append];try omega) (by simp(disch:=omega)only[go_sem])⟩
   ·simp(disch:=omega)only[go_sem,h3]
    have hy0:=hyz (by omega)
    refine⟨by omega,qh (i+1,out++[(lim a).getD i 0-bo],0) [(1,440000000)] ⟨by show i+1≤_;omega,by simp[hol],qP.2 ⟨hog,z7.2 (by omega)⟩,by simp,hstep ((lim a).getD i 0-bo) 0 (by omega)⟩ (by show(lim a).length-(i+1)<(lim a).length-i;omega) rfl (by simp(disch:=omega)only[go_sem,List.length_append];try omega) (by simp(disch:=omega)only[go_sem])⟩
 ·simp(disch:=omega)only[go_sem,h1]
  have hiA:i=(lim a).length:=by omega
  subst hiA
  rw[List.take_length,List.take_of_length_le lB]at hov
  have hva:=qS a
  have hvb:=qS b
  have hb0:bo=0:=by
   have h2:=yS hog
   rw[hol]at h2
   rcases(by omega:bo=0∨bo=1)with h|h
   ·exact h
   ·subst h;omega
  subst hb0
  have hov2:vl out=((a-b:Nat):Int):=by omega
  refine qx (j0 true out (a-b) (by omega) hog hov2) (by simp(disch:=omega)only[go_sem]) ?_
  rintro r hs (⟨h0,rfl,rfl⟩|⟨zs,rfl,rfl⟩)
  ·refine⟨⟨by simp,by simp(disch:=omega)only[go_sem]⟩,?_⟩
   simp(disch:=omega)only[go_sem]
   refine qm [] [] [] [.ag [.v (.slice none 0 0)]] rfl (by simp(disch:=omega)only[go_sem]) (by simp(disch:=omega)only[go_sem]) (by simp) (by intro _;simp[qW,AV.pu,AV.pu.puL,Ob.pu,za]) (.inl ⟨h0,rfl,rfl⟩)
  ·refine⟨⟨by simp,by simp(disch:=omega)only[go_sem]⟩,?_⟩
   simp(disch:=omega)only[go_sem]
   refine qm [(0,460000000)] [.own 1 (qg (lim (a-b)++zs))] [] [.ag [.rf 0 0 (lim (a-b)).length]] rfl (by simp(disch:=omega)only[go_sem]) (by simp(disch:=omega)only[go_sem]) (by simp) (by intro _;simp[qW,AV.pu,AV.pu.puL,Ob.pu,za]) (.inr ⟨zs,rfl,rfl⟩)
end Go.Ab
namespace Go.Ab
open Go Go.Proofs
theorem JS(a b:Nat)(hle:b≤a)(la:(lim a).length≤1000000):Con Tryz.prog 258 false [.ag [.sl (lim (a)).length (qg (lim (a)))],.ag [.sl (lim (b)).length (qg (lim (b)))]] [] (isA (.ag [.sl (lim (a-b)).length (qg (lim (a-b)))])):=(apD false a b hle la).natF
theorem apC(s1:Bool)(m1:Nat)(s2:Bool)(m2:Nat)(h1:bl m1≤6000000)(h2:bl m2≤6000000):
  Con Tryz.prog 201 false [.ag [.v (.bool (s1)),.sl (lim (m1)).length (qg (lim (m1)))],.ag [.v (.bool (s2)),.sl (lim (m2)).length (qg (lim (m2)))]] [] (isA (.ag [.v (.bool (suS s1 m1 s2 m2)),.sl (lim (suM s1 m1 s2 m2)).length (qg (lim (suM s1 m1 s2 m2)))])):=by
 refine Con.frzA ?_
 have l1:=qt h1
 have l2:=qt h2
 have hge:(0≤zw (m1:Int) (m2:Int))↔m2≤m1:=by rw[Ja.2.2];omega
 have hb:=aaf (s1:=s1) (s2:=s2) h1 h2
 have l3:=qt hb
 rw[←anO]
 refine Con.of_w (rs:=[.cell 4 27]) Tryz.func201 rfl Tryz.ntmps201 rfl ?_
 simp(disch:=omega)only[go_sem]
 refine zI (fun c1=>?_) (fun c1=>?_)
 ·have c1':s1=s2:=by simpa using c1
  simp(disch:=omega)only[go_sem,c1]
  subst c1'
  rw[ad1,ad0]at*
  refine qn rfl [⟨0,[],[]⟩,⟨1,[],[]⟩,⟨2,[1],[]⟩,⟨3,[1],[]⟩,⟨4,[1,3],[]⟩,⟨5,[1,3],[]⟩,⟨6,[1],[]⟩,⟨7,[],[]⟩,⟨8,[],[]⟩] (by kernel_rfl) ?_
  simp(disch:=omega)only[go_sem]
  refine qa (QK m1 m2 (by omega) (by omega)) ?_
  simp(disch:=omega)only[go_sem]
  refine qa (zg s1 (m1+m2) (by omega)) ?_
  simp(disch:=omega)only[go_sem]
  exact qk
 ·have c1':s1≠s2:=by simpa using c1
  simp(disch:=omega)only[go_sem,c1]
  refine qc (Z2 m1 m2 (by omega) (by omega)) ?_
  simp(disch:=omega)only[go_sem]
  refine qe (fun c2=>?_) (fun c2=>?_)
  ·have c2':m2≤m1:=hge.1 (by omega)
   rw[aDG c1' c2',aDx c1' c2']at*
   simp(disch:=omega)only[go_sem,c2]
   refine qn rfl [⟨0,[],[]⟩,⟨1,[],[]⟩,⟨2,[1],[]⟩,⟨3,[1],[]⟩,⟨4,[1,3],[]⟩,⟨5,[1,3],[]⟩,⟨6,[1],[]⟩,⟨7,[],[]⟩,⟨8,[],[]⟩] (by kernel_rfl) ?_
   simp(disch:=omega)only[go_sem]
   refine qa (JS m1 m2 c2' (by omega)) ?_
   simp(disch:=omega)only[go_sem]
   refine qa (zg s1 (m1-m2) (by omega)) ?_
   simp(disch:=omega)only[go_sem]
   exact qk
  ·have c2':¬m2≤m1:=fun h=>c2 (by have:=hge.2 h;omega)
   rw[aDF c1' c2',aDw c1' c2']at*
   simp(disch:=omega)only[go_sem,c2]
   refine qn rfl [⟨0,[],[]⟩,⟨1,[],[]⟩,⟨2,[1],[]⟩,⟨3,[1],[]⟩,⟨4,[1,3],[]⟩,⟨5,[1,3],[]⟩,⟨6,[1],[]⟩,⟨7,[],[]⟩,⟨8,[],[]⟩] (by kernel_rfl) ?_
   simp(disch:=omega)only[go_sem]
   refine qa (JS m2 m1 (by omega) (by omega)) ?_
   simp(disch:=omega)only[go_sem]
   refine qa (zg s2 (m2-m1) (by omega)) ?_
   simp(disch:=omega)only[go_sem]
   exact qk
theorem apz(s:Bool)(m:Nat)(hl:(lim m).length≤2^39):Con Tryz.prog 257 false [.ag [.v (.bool (s)),.sl (lim (m)).length (qg (lim (m)))]] [] (isA (.ag [.v (.bool ((!s)&&decide (m≠0))),.sl (lim (m)).length (qg (lim (m)))])):=by
 refine Con.frzA ?_
 refine Con.of_w (rs:=[.cell 2 27]) Tryz.func257 rfl Tryz.ntmps257 rfl ?_
 simp(disch:=omega)only[go_sem]
 refine qa (zg (!s) m hl) ?_
 simp(disch:=omega)only[go_sem]
 exact qk
theorem apw(s:Bool)(m:Nat)(e:Int)(hl:(lim m).length≤2^39):Con Tryz.prog 199 false [.ag [.v (.bool (s)),.sl (lim (m)).length (qg (lim (m))),.v (.int .i64 (e))]] [] (isA (.ag [.v (.bool ((!s)&&decide (m≠0))),.sl (lim (m)).length (qg (lim (m))),.v (.int .i64 (e))])):=by
 refine Con.frzA ?_
 refine Con.of_w (rs:=[.cell 2 29]) Tryz.func199 rfl Tryz.ntmps199 rfl ?_
 simp(disch:=omega)only[go_sem]
 refine qn rfl [⟨0,[],[]⟩,⟨1,[],[]⟩,⟨3,[1],[]⟩,⟨4,[1],[]⟩,⟨2,[4],[]⟩,⟨5,[],[]⟩,⟨6,[],[]⟩] (by kernel_rfl) ?_
 simp(disch:=omega)only[go_sem]
 refine qa (apz s m hl) ?_
 simp(disch:=omega)only[go_sem]
 exact qk
def alF(m1:Nat)(e1:Int)(m2:Nat)(e2:Int):Int:=if m1=0 then e2 else if m2=0 then e1 else if e1≤e2 then e1 else e2
theorem aSM(m1:Nat)(e1:Int)(m2:Nat)(e2:Int)(h:¬(m1=0∧m2=0)):alF m1 e1 m2 e2=alE m1 e1 m2 e2:=by
 unfold alF alE
 repeat' split
 all_goals omega
theorem ZZ(s1:Bool)(m1:Nat)(e1:Int)(s2:Bool)(m2:Nat)(e2:Int)(h1:bl m1≤4000000)(h2:bl m2≤4000000)(he1: -1000000≤e1∧e1≤1000000)(he2: -1000000≤e2∧e2≤1000000)(z1:m1=0→s1=false)(z2:m2=0→s2=false):
  Con Tryz.prog 157 false [.ag [.v (.bool (s1)),.sl (lim (m1)).length (qg (lim (m1))),.v (.int .i64 (e1))],.ag [.v (.bool (s2)),.sl (lim (m2)).length (qg (lim (m2))),.v (.int .i64 (e2))]] [] (isA (.tu [.ag [.v (.bool (s1)),.sl (lim (alA m1 e1 (alE m1 e1 m2 e2))).length (qg (lim (alA m1 e1 (alE m1 e1 m2 e2))))],.ag [.v (.bool (s2)),.sl (lim (alA m2 e2 (alE m1 e1 m2 e2))).length (qg (lim (alA m2 e2 (alE m1 e1 m2 e2))))],.v (.int .i64 (alF m1 e1 m2 e2))])):=by
 refine Con.frzA ?_
 have l1:=qt h1
 have l2:=qt h2
 refine Con.of_aw Tryz.func157 rfl Tryz.ntmps157 (by simp) (by simp) (by simp) (W.sound ?_)
 show @W Tryz.prog 70 ⟨_⟩ ⟨fun x σ=>@qV _ _ _ ⟨_⟩ _ ⟨_⟩ x σ⟩ _ _
 simp(disch:=omega)only[go_sem]
 refine qe (fun c1=>?_) (fun c1=>?_)
 ·have y1:m1=0:=qD.1 (List.length_eq_zero_iff.1 (by omega))
  have eF:alF m1 e1 m2 e2=e2:=by unfold alF;rw[if_pos y1]
  have a1:alA m1 e1 (alE m1 e1 m2 e2)=m1:=by rw[y1];unfold alA;rw[Nat.zero_mul]
  have a2:alA m2 e2 (alE m1 e1 m2 e2)=m2:=by
   by_cases y2:m2=0
   ·rw[y2];unfold alA;rw[Nat.zero_mul]
   ·unfold alA alE;rw[if_neg y2,if_pos y1,Int.sub_self];simp
  simp(disch:=omega)only[go_sem,c1]
  refine qn rfl [⟨0,[],[]⟩,⟨1,[],[]⟩,⟨2,[1],[]⟩,⟨3,[1],[]⟩,⟨4,[1,3],[]⟩,⟨5,[1,3],[]⟩,⟨6,[3,5],[]⟩,⟨7,[5],[]⟩,⟨8,[],[]⟩] (by kernel_rfl) ?_
  simp(disch:=omega)only[go_sem]
  refine qF (by simp(disch:=omega)only[go_sem]) ?_
  show qM _ 6 _=_
  rw[eF,a1,a2]
  simp(disch:=omega)only[go_sem]
 ·have y1:m1≠0:=fun e=>c1 (by rw[e,ql];rfl)
  simp(disch:=omega)only[go_sem,c1]
  refine qe (fun c2=>?_) (fun c2=>?_)
  ·have y2:m2=0:=qD.1 (List.length_eq_zero_iff.1 (by omega))
   have eF:alF m1 e1 m2 e2=e1:=by unfold alF;rw[if_neg y1,if_pos y2]
   have a1:alA m1 e1 (alE m1 e1 m2 e2)=m1:=by unfold alA alE;rw[if_pos y2,Int.sub_self];simp
   have a2:alA m2 e2 (alE m1 e1 m2 e2)=m2:=by rw[y2];unfold alA;rw[Nat.zero_mul]
   simp(disch:=omega)only[go_sem,c2]
   refine qn rfl [⟨0,[],[]⟩,⟨1,[],[]⟩,⟨2,[1],[]⟩,⟨3,[1],[]⟩,⟨4,[1,3],[]⟩,⟨5,[1,3],[]⟩,⟨6,[3,5],[]⟩,⟨7,[5],[]⟩,⟨8,[],[]⟩] (by kernel_rfl) ?_
   simp(disch:=omega)only[go_sem]
   refine qF (by simp(disch:=omega)only[go_sem]) ?_
   show qM _ 6 _=_
   rw[eF,a1,a2]
   simp(disch:=omega)only[go_sem]
  ·have y2:m2≠0:=fun e=>c2 (by rw[e,ql];rfl)
   simp(disch:=omega)only[go_sem,c2]
   refine qe (fun c3=>?_) (fun c3=>?_)
   ·have eF:alF m1 e1 m2 e2=e1:=by unfold alF;rw[if_neg y1,if_neg y2,if_pos c3]
    have eE:alE m1 e1 m2 e2=e1:=by unfold alE;rw[if_neg y2,if_neg y1,if_neg (by omega)]
    have a1:alA m1 e1 (alE m1 e1 m2 e2)=m1:=by rw[eE];unfold alA;rw[Int.sub_self];simp
    have ek:e2-e1=(((e2-e1).toNat:Nat):Int):=by omega
    have hb:bl (m2*2^(e2-e1).toNat)≤6000000:=by have:=QM m2 (e2-e1).toNat;omega
    have l3:=qt hb
    have hn:m2*2^(e2-e1).toNat≠0:=Nat.mul_ne_zero y2 (Nat.pos_iff_ne_zero.1 (Nat.pow_pos (by omega)))
    have hd:decide (m2*2^(e2-e1).toNat≠0)=true:=decide_eq_true hn
    simp(disch:=omega)only[go_sem,c3]
    refine qn rfl [⟨0,[],[]⟩,⟨1,[],[]⟩,⟨2,[1],[]⟩,⟨3,[1],[]⟩,⟨4,[1],[]⟩,⟨5,[1,4],[]⟩,⟨6,[1,4],[]⟩,⟨7,[1,4],[]⟩,⟨8,[1,4,7],[]⟩,⟨9,[1,4,7],[]⟩,⟨10,[1,4,7,9],[]⟩,⟨11,[1,4,7,9],[]⟩,⟨12,[1,4,7],[]⟩,⟨15,[1,4,7,9,11],[]⟩,⟨16,[1,4,7,9,11],[]⟩,⟨13,[1,4,16],[]⟩,⟨14,[1,16],[]⟩,⟨17,[16],[]⟩,⟨18,[16],[]⟩,⟨19,[],[]⟩] (by kernel_rfl) ?_
    simp(disch:=omega)only[go_sem]
    refine qE (q9 m2 (e2-e1).toNat (by omega) (by omega)) (by simp(disch:=omega)only[go_sem,←ek]) ?_
    rintro r hs ⟨rfl,rfl,_⟩
    refine⟨by simp[qK],?_⟩
    simp(disch:=omega)only[go_sem]
    refine qa (zg s2 (m2*2^(e2-e1).toNat) (by omega)) ?_
    simp(disch:=omega)only[go_sem]
    refine qF (by simp(disch:=omega)only[go_sem]) ?_
    show qM _ 6 _=_
    rw[eF,a1,eE,hd];unfold alA
    simp(disch:=omega)only[go_sem,Bool.and_true]
   ·have eF:alF m1 e1 m2 e2=e2:=by unfold alF;rw[if_neg y1,if_neg y2,if_neg c3]
    have eE:alE m1 e1 m2 e2=e2:=by unfold alE;rw[if_neg y2,if_neg y1,if_pos (by omega)]
    have a2:alA m2 e2 (alE m1 e1 m2 e2)=m2:=by rw[eE];unfold alA;rw[Int.sub_self];simp
    have ek:e1-e2=(((e1-e2).toNat:Nat):Int):=by omega
    have hb:bl (m1*2^(e1-e2).toNat)≤6000000:=by have:=QM m1 (e1-e2).toNat;omega
    have l3:=qt hb
    have hn:m1*2^(e1-e2).toNat≠0:=Nat.mul_ne_zero y1 (Nat.pos_iff_ne_zero.1 (Nat.pow_pos (by omega)))
    have hd:decide (m1*2^(e1-e2).toNat≠0)=true:=decide_eq_true hn
    simp(disch:=omega)only[go_sem,c3]
    refine qn rfl [⟨0,[],[]⟩,⟨1,[],[]⟩,⟨2,[],[]⟩,⟨3,[2],[]⟩,⟨4,[2],[]⟩,⟨5,[2],[]⟩,⟨6,[2,5],[]⟩,⟨7,[2,5],[]⟩,⟨8,[2,5,7],[]⟩,⟨9,[2,5,7],[]⟩,⟨10,[2,5],[]⟩,⟨13,[2,5,7,9],[]⟩,⟨14,[2,5,7,9],[]⟩,⟨15,[2,5,7,9,14],[]⟩,⟨16,[2,5,7,9,14],[]⟩,⟨11,[2,14,16],[]⟩,⟨12,[14,16],[]⟩,⟨17,[14,16],[]⟩,⟨18,[16],[]⟩,⟨19,[],[]⟩] (by kernel_rfl) ?_
    simp(disch:=omega)only[go_sem]
    refine qE (q9 m1 (e1-e2).toNat (by omega) (by omega)) (by simp(disch:=omega)only[go_sem,←ek]) ?_
    rintro r hs ⟨rfl,rfl,_⟩
    refine⟨by simp[qK],?_⟩
    simp(disch:=omega)only[go_sem]
    refine qa (zg s1 (m1*2^(e1-e2).toNat) (by omega)) ?_
    simp(disch:=omega)only[go_sem]
    refine qF (by simp(disch:=omega)only[go_sem]) ?_
    show qM _ 6 _=_
    rw[eF,a2,eE,hd];unfold alA
    simp(disch:=omega)only[go_sem,Bool.and_true]
theorem apy(s1:Bool)(m1:Nat)(e1:Int)(s2:Bool)(m2:Nat)(e2:Int)(h1:bl m1≤4000000)(h2:bl m2≤4000000)(he1: -1000000≤e1∧e1≤1000000)(he2: -1000000≤e2∧e2≤1000000)(z1:m1=0→s1=false)(z2:m2=0→s2=false):
  Con Tryz.prog 126 false [.ag [.v (.bool (s1)),.sl (lim (m1)).length (qg (lim (m1))),.v (.int .i64 (e1))],.ag [.v (.bool (s2)),.sl (lim (m2)).length (qg (lim (m2))),.v (.int .i64 (e2))]] [] (isA (.ag [.v (.bool (oS (adS s1 m1 e1 s2 m2 e2) (adM s1 m1 e1 s2 m2 e2))),.sl (lim (oM (adM s1 m1 e1 s2 m2 e2))).length (qg (lim (oM (adM s1 m1 e1 s2 m2 e2)))),.v (.int .i64 (oE (adM s1 m1 e1 s2 m2 e2) (alE m1 e1 m2 e2)))])):=by
 refine Con.frzA ?_
 have hE:=QZ (m1:=m1) (m2:=m2) he1.1 he2.1
 have b1:=yR (e:=e1) (E:=alE m1 e1 m2 e2) (C:=2000000) h1 (by omega)
 have b2:=yR (e:=e2) (E:=alE m1 e1 m2 e2) (C:=2000000) h2 (by omega)
 have hF: -1000000≤alF m1 e1 m2 e2∧alF m1 e1 m2 e2≤1000000:=by
  unfold alF
  repeat' split
  all_goals omega
 have hX:oE (adM s1 m1 e1 s2 m2 e2) (alE m1 e1 m2 e2)=oE (adM s1 m1 e1 s2 m2 e2) (alF m1 e1 m2 e2):=by
  by_cases h:m1=0∧m2=0
  ·have:adM s1 m1 e1 s2 m2 e2=0:=by rw[h.1,h.2];unfold adM alA;rw[Nat.zero_mul,Nat.zero_mul];unfold suM;rw[yk,yk];rfl
   rw[this];rfl
  ·rw[aSM _ _ _ _ h]
 rw[hX]
 have l1:=qt h1
 have l2:=qt h2
 refine Con.of_w (rs:=[.cell 4 29]) Tryz.func126 rfl Tryz.ntmps126 rfl ?_
 simp(disch:=omega)only[go_sem]
 refine qa (ZZ s1 m1 e1 s2 m2 e2 h1 h2 he1 he2 z1 z2) ?_
 simp(disch:=omega)only[go_sem]
 unfold adS adM
 generalize alA m1 e1 (alE m1 e1 m2 e2)=A at*
 generalize alA m2 e2 (alE m1 e1 m2 e2)=B at*
 generalize alF m1 e1 m2 e2=E at*
 refine qa (apC s1 A s2 B (by omega) (by omega)) ?_
 simp(disch:=omega)only[go_sem]
 have hb:=aaf (s1:=s1) (s2:=s2) b1 b2
 refine qa (zU (suS s1 A s2 B) (suM s1 A s2 B) E (by omega) (by omega)) ?_
 simp(disch:=omega)only[go_sem]
 exact qk
end Go.Ab
namespace Go.Ab
open Go Go.Proofs
theorem aiT(mode:Int):Con Tryz.prog 253 true [.v (.int .i64 mode)] [] (isA (.v (.bool (decide (0≤mode)&&decide (mode≤4))))):=by
 refine Con.of_aw Tryz.func253 rfl Tryz.ntmps253 (by simp) (by simp) (by simp) (W.sound ?_)
 show @W Tryz.prog 9 ⟨_⟩ ⟨fun x σ=>@qV _ _ _ ⟨_⟩ _ ⟨_⟩ x σ⟩ _ _
 simp(disch:=omega)only[go_sem]
 repeat' first
  |simp(disch:=omega)only[go_sem, *]
  |(with_reducible refine qe (fun _=>?_) (fun _=>?_))
  |(with_reducible refine qY (fun _=>?_) (fun _=>?_))
  |(with_reducible refine z6 (fun _=>?_) (fun _=>?_))
  |(with_reducible refine zI (fun _=>?_) (fun _=>?_))
 all_goals exact qb (by simp(disch:=omega)only[go_sem]) (by simp(disch:=omega)only[go_sem]) ⟨by simp_all[qW]<;>omega,rfl,rfl⟩
theorem apv(neg:Bool)(m k:Nat)(mode:Int)(hl:(lim m).length≤2^40)(hk:1≤k)(hk2:k≤2^40):Con Tryz.prog 291 true [.v (.bool neg),.ag [.sl (lim (m)).length (qg (lim (m)))],.v (.int .i64 k),.v (.int .i64 mode)] [] (isA (.v (.bool (aju neg m k mode)))):=by
 refine Con.of_aw Tryz.func291 rfl Tryz.ntmps291 (by simp) (by simp) (by simp) (W.sound ?_)
 show @W Tryz.prog 44 ⟨_⟩ ⟨fun x σ=>@qV _ _ _ ⟨_⟩ _ ⟨_⟩ x σ⟩ _ _
 have ek:((k:Int)-1)=((k-1:Nat):Int):=by omega
 have e1:decide (((m/2^(k-1) % 2:Nat):Int)=1)=decide (m/2^(k-1) % 2=1):=by rw[decide_eq_decide];omega
 have e2:decide (((m/2^k % 2:Nat):Int)=1)=decide (m/2^k % 2=1):=by rw[decide_eq_decide];omega
 have e3:decide ((tz m:Int)<((k-1:Nat):Int))=decide (tz m<k-1):=by rw[decide_eq_decide];omega
 simp(disch:=omega)only[go_sem,ek]
 refine qx (Qt m ((k-1:Nat):Int) hl (by omega) (by omega)) (by simp(disch:=omega)only[go_sem,ek]) ?_
 rintro r hs ⟨rfl,rfl,_⟩
 refine⟨by simp[qK],?_⟩
 simp(disch:=omega)only[go_sem,ek,e1]
 refine qc (Z0 m hl) ?_
 simp(disch:=omega)only[go_sem]
 refine qe (fun h1=>?_) (fun h1=>?_)
 ·simp(disch:=omega)only[go_sem,h1]
  exact qb (by simp(disch:=omega)only[go_sem]) (by simp(disch:=omega)only[go_sem]) ⟨by simp[qW,aju,h1],rfl,rfl⟩
 ·simp(disch:=omega)only[go_sem,h1]
  refine qe (fun h2=>?_) (fun h2=>?_)
  ·simp(disch:=omega)only[go_sem,h2]
   exact qb (by simp(disch:=omega)only[go_sem]) (by simp(disch:=omega)only[go_sem]) ⟨by simp[qW,aju,h2],rfl,rfl⟩
  ·simp(disch:=omega)only[go_sem,h2]
   refine qe (fun h3=>?_) (fun h3=>?_)
   ·simp(disch:=omega)only[go_sem,h3]
    exact qb (by simp(disch:=omega)only[go_sem]) (by simp(disch:=omega)only[go_sem]) ⟨by simp[qW,aju,h3],rfl,rfl⟩
   ·simp(disch:=omega)only[go_sem,h3]
    refine qe (fun h4=>?_) (fun h4=>?_)
    ·simp(disch:=omega)only[go_sem,h4]
     exact qb (by simp(disch:=omega)only[go_sem]) (by simp(disch:=omega)only[go_sem]) ⟨by simp[qW,aju,h4],rfl,rfl⟩
    ·simp(disch:=omega)only[go_sem,h4]
     refine zI (fun h5=>?_) (fun h5=>?_)
     ·simp(disch:=omega)only[go_sem,h5]
      refine z6 (fun h6=>?_) (fun h6=>?_)
      ·simp(disch:=omega)only[go_sem,h6]
       refine qc (Qt m (k:Int) hl (by omega) (by omega)) ?_
       simp(disch:=omega)only[go_sem]
       have h7:decide (tz m<k-1)=false:=by rw[←e3,←ek];exact h6
       rw[e2]
       refine qb (by simp(disch:=omega)only[go_sem]) (by simp(disch:=omega)only[go_sem]) ⟨?_,rfl,rfl⟩
       show AV.v (.bool _)=AV.v (.bool _)
       unfold aju;rw[if_neg h1,if_neg h2,if_neg h3,if_neg h4,h5,h7];rfl
      ·simp(disch:=omega)only[go_sem,h6]
       have h7:decide (tz m<k-1)=true:=by rw[←e3,←ek];exact h6
       refine qb (by simp(disch:=omega)only[go_sem]) (by simp(disch:=omega)only[go_sem]) ⟨?_,rfl,rfl⟩
       show AV.v (.bool _)=AV.v (.bool _)
       unfold aju;rw[if_neg h1,if_neg h2,if_neg h3,if_neg h4,h5,h7];rfl
     ·simp(disch:=omega)only[go_sem,h5]
      refine qb (by simp(disch:=omega)only[go_sem]) (by simp(disch:=omega)only[go_sem]) ⟨?_,rfl,rfl⟩
      show AV.v (.bool _)=AV.v (.bool _)
      unfold aju;rw[if_neg h1,if_neg h2,if_neg h3,if_neg h4,h5];rfl
def srM(s:Bool)(m:Nat)(e low mode:Int):Nat:=oM (roM s m e low mode)
def srE(s:Bool)(m:Nat)(e low mode:Int):Int:=if low≤e∨m=0 then e else oE (roM s m e low mode) low
theorem ZY(s:Bool)(m:Nat)(e low mode:Int)(hodd:m % 2=1∨m=0)(hs:m=0→s=false)(hmode:0≤mode∧mode≤4)(hm:bl m≤4000000)(he: -1000000≤e∧e≤1000000)(hlo: -1000000≤low∧low≤1000000):
  Con Tryz.prog 261 false [.ag [.v (.bool (s)),.sl (lim (m)).length (qg (lim (m))),.v (.int .i64 (e))],.v (.int .i64 low),.v (.int .i64 mode)] []
   (isA (.tu [.ag [.v (.bool (oS (roS s m e low mode) (roM s m e low mode))),.sl (lim (srM s m e low mode)).length (qg (lim (srM s m e low mode))),.v (.int .i64 (srE s m e low mode))],.v (.bool (roX m e low))])):=by
 refine Con.frzA ?_
 have l1:=qt hm
 refine Con.of_aw Tryz.func261 rfl Tryz.ntmps261 (by simp) (by simp) (by simp) (W.sound ?_)
 show @W Tryz.prog 51 ⟨_⟩ ⟨fun x σ=>@qV _ _ _ ⟨_⟩ _ ⟨_⟩ x σ⟩ _ _
 simp(disch:=omega)only[go_sem]
 refine qY (fun h1=>?_) (fun h1=>?_)
 ·have h0:m≠0:=fun e=>h1 (by rw[e,ql];rfl)
  have hod:m % 2=1:=hodd.resolve_right h0
  simp(disch:=omega)only[go_sem,h1]
  refine qe (fun h2=>?_) (fun h2=>?_)
  ·simp(disch:=omega)only[go_sem,h2]
   refine qF (by simp(disch:=omega)only[go_sem]) ?_
   show qM _ 6 _=_
   have ht:=QO hod
   have e3:oM m=m:=by unfold oM;rw[ht];simp
   simp only[srM,srE,roM,roS,roX,h2,true_or,if_true,oS,if_neg h0,e3]
   simp(disch:=omega)only[go_sem]
  ·simp(disch:=omega)only[go_sem,h2]
   have ek:low-e=(((low-e).toNat:Nat):Int):=by omega
   have hk1:1≤(low-e).toNat:=by omega
   refine qE (KX m (low-e).toNat (by omega) (by omega)) (by simp(disch:=omega)only[go_sem,←ek]) ?_
   rintro r hs ⟨rfl,rfl,_⟩
   refine⟨by simp[qK],?_⟩
   simp(disch:=omega)only[go_sem]
   refine qx (apv s m (low-e).toNat mode (by omega) hk1 (by omega)) (by simp(disch:=omega)only[go_sem,←ek]) ?_
   rintro r hs ⟨rfl,rfl,_⟩
   refine⟨by simp[qK],?_⟩
   simp(disch:=omega)only[go_sem]
   have hc:¬(low≤e∨m=0):=by omega
   have hne:=aIZ hod hk1
   have hups:=aL4 (neg:=s) hod hk1 hmode
   have hq:roM s m e low mode=if aju s m (low-e).toNat mode=true then m/2^(low-e).toNat+1 else m/2^(low-e).toNat:=by
    unfold roM rq
    rw[if_neg hc,if_neg hne,←hups]
   have hro:roS s m e low mode=(s&&decide (roM s m e low mode≠0)):=by unfold roS roM;rw[if_neg hc,if_neg hc]
   have hblq:bl (m/2^(low-e).toNat+1)≤4000001:=by
    have h3:=Jf (m/2^(low-e).toNat)
    have h4:=jH m (2^(low-e).toNat)
    omega
   have hblq0:bl (m/2^(low-e).toNat)≤4000001:=Nat.le_trans (qQ (by omega)) hblq
   have lq:=qt hblq
   have lq0:=qt hblq0
   have hrx:roX m e low=false:=by unfold roX;rw[if_neg hc];simp[hne]
   have hfin:∀q,roM s m e low mode=q→bl q≤4000001→AV.ag [.v (.bool (oS (s&&decide (q≠0)) q)),.sl (lim (oM q)).length (qg (lim (oM q))),.v (.int .i64 (oE q low))]=AV.ag [.v (.bool (oS (roS s m e low mode) (roM s m e low mode))),.sl (lim (srM s m e low mode)).length (qg (lim (srM s m e low mode))),.v (.int .i64 (srE s m e low mode))]:=by
    intro q hq' _
    rw[hro,hq']
    unfold srM srE
    rw[if_neg hc,hq']
   refine zI (fun h3=>?_) (fun h3=>?_)
   ·rw[if_pos h3]at hq
    simp(disch:=omega)only[go_sem,h3]
    refine qn rfl [⟨0,[],[]⟩,⟨1,[0],[]⟩,⟨2,[],[]⟩,⟨3,[],[]⟩] (by kernel_rfl) ?_
    simp(disch:=omega)only[go_sem]
    refine qa (yy 1 (by omega)) ?_
    simp(disch:=omega)only[go_sem]
    refine qa (QK (m/2^(low-e).toNat) 1 (by omega) (by have:=qt (m:=1) (B:=1) (by decide);omega)) ?_
    simp(disch:=omega)only[go_sem]
    refine qa (zg s (m/2^(low-e).toNat+1) (by omega)) ?_
    simp(disch:=omega)only[go_sem]
    refine qa (zU (s&&decide (m/2^(low-e).toNat+1≠0)) (m/2^(low-e).toNat+1) low (by omega) (by omega)) ?_
    simp(disch:=omega)only[go_sem]
    refine qF (by simp(disch:=omega)only[go_sem]) ?_
    show qM _ 6 _=_
    rw[←hfin _ hq hblq,hrx]
    simp(disch:=omega)only[go_sem]
   ·rw[if_neg (by rw[h3];simp)]at hq
    simp(disch:=omega)only[go_sem,h3]
    refine qa (zg s (m/2^(low-e).toNat) (by omega)) ?_
    simp(disch:=omega)only[go_sem]
    refine qa (zU (s&&decide (m/2^(low-e).toNat≠0)) (m/2^(low-e).toNat) low (by omega) (by omega)) ?_
    simp(disch:=omega)only[go_sem]
    refine qF (by simp(disch:=omega)only[go_sem]) ?_
    show qM _ 6 _=_
    rw[←hfin _ hq hblq0,hrx]
    simp(disch:=omega)only[go_sem]
 ·have h0:m=0:=qD.1 (List.length_eq_zero_iff.1 (by omega))
  simp(disch:=omega)only[go_sem,h1]
  refine qF (by simp(disch:=omega)only[go_sem]) ?_
  show qM _ 6 _=_
  have hs0:=hs h0
  subst h0
  subst hs0
  simp only[srM,srE,roM,roS,roX,or_true,if_true,oS,jv]
  simp(disch:=omega)only[go_sem]
end Go.Ab
namespace Go.Ab
open Go Go.Proofs
theorem ja:Con Tryz.prog 204 true [] [] (isA (.ag [.v (.int .i64 (3)),.v (.bool (false)),.v (.int .i64 (0)),.v (.int .i64 (0))])):=by
 refine Con.of_w (rs:=[.cell 0 63]) Tryz.func204 rfl Tryz.ntmps204 rfl ?_
 simp(disch:=omega)only[go_sem]
 exact qu
theorem ZX:Con Tryz.prog 191 true [] [] (isA (.tu [.ag [.v (.int .i64 (3)),.v (.bool (false)),.v (.int .i64 (0)),.v (.int .i64 (0))],.v (.int .i64 16)])):=by
 refine Con.of_w (rs:=[.cell 0 63,.tmp 1]) Tryz.func191 rfl Tryz.ntmps191 rfl ?_
 simp(disch:=omega)only[go_sem]
 refine qc (ja) ?_
 simp(disch:=omega)only[go_sem]
 exact qu
theorem qG(s:Bool):Con Tryz.prog 256 true [.v (.bool s)] [] (isA (.ag [.v (.int .i64 (1)),.v (.bool (s)),.v (.int .i64 (9007199254740991)),.v (.int .i64 (971))])):=by
 refine Con.of_w (rs:=[.cell 2 63]) Tryz.func256 rfl Tryz.ntmps256 rfl ?_
 simp(disch:=omega)only[go_sem]
 exact qu
theorem aMK{s:Bool}{m:Nat}{e low mode:Int}(hodd:m % 2=1):srM s m e low mode=oM (roM s m e low mode)∧srE s m e low mode=oE (roM s m e low mode) (roE m e low):=by
 refine⟨rfl,?_⟩
 unfold srE
 by_cases h:low≤e∨m=0
 ·have h0:m≠0:=fun e=>by omega
  rw[if_pos h]
  unfold roM roE oE
  rw[if_pos h,if_pos h,if_neg h0,QO hodd];simp
 ·rw[if_neg h]
  unfold roE
  rw[if_neg h]
theorem aDH{s:Bool}{m:Nat}{e low mode:Int}(h:roM s m e low mode≠0):oS (roS s m e low mode) (roM s m e low mode)=s:=by
 unfold oS;rw[if_neg h]
 unfold roS roM at*
 by_cases hc:low≤e∨m=0
 ·rw[if_pos hc]
 ·rw[if_neg hc]at h ⊢
  simp[h]
theorem aDL{m:Nat}{e:Int}{B:Nat}(h:bl m≤B)(he: -1000000≤e∧e≤1000000): -1000000≤oE m e∧oE m e≤1000000+B:=by
 unfold oE
 by_cases h0:m=0
 ·rw[if_pos h0];omega
 ·rw[if_neg h0];have:=j5 h0;omega
set_option maxRecDepth 100000 in
set_option maxHeartbeats 1000000 in
theorem jx(s:Bool)(m:Nat)(e mode:Int)(z:Bool)(hodd:m % 2=1∨m=0)(hs:m=0→s=false)(hmode:0≤mode∧mode≤4)(hm:bl m≤100000)(he: -100000≤e∧e≤100000):
  Con Tryz.prog 205 true [.ag [.v (.bool (s)),.sl (lim (m)).length (qg (lim (m))),.v (.int .i64 (e))],.v (.int .i64 mode),.v (.bool z)] []
   (isA (.tu [.ag [.v (.int .i64 ((flV s m e mode z).k)),.v (.bool ((flV s m e mode z).s)),.v (.int .i64 ((flV s m e mode z).m)),.v (.int .i64 ((flV s m e mode z).e))],.v (.int .i64 (flG s m e mode))])):=by
 have hl:=qt hm
 refine Con.of_aw Tryz.func205 rfl Tryz.ntmps205 (by simp) (by simp) (by simp) (W.sound ?_)
 show @W Tryz.prog 105 ⟨_⟩ ⟨fun x σ=>@qV _ _ _ ⟨_⟩ _ ⟨_⟩ x σ⟩ _ _
 simp(disch:=omega)only[go_sem]
 refine qe (fun h1=>?_) (fun h1=>?_)
 ·have h0:m=0:=qD.1 (List.length_eq_zero_iff.1 (by omega))
  simp(disch:=omega)only[go_sem,h1]
  refine qb (by simp(disch:=omega)only[go_sem]) (by simp(disch:=omega)only[go_sem]) ⟨?_,rfl,rfl⟩
  simp only[qW,flV,flG,h0,if_true]
 ·have h0:m≠0:=fun e=>h1 (by rw[e,ql];rfl)
  have hod:m % 2=1:=hodd.resolve_right h0
  simp(disch:=omega)only[go_sem,h1]
  have etop:(if m=0 then(0:Int)else e+(bl m:Int))=(bl m:Int)+e:=by rw[if_neg h0];omega
  refine qc (zj s m e (by omega) (by omega)) ?_ (by simp(disch:=omega)only[go_sem,etop])
  simp(disch:=omega)only[go_sem]
  simp(disch:=omega)only[go_sem,etop]
  have hL0:qU ((bl m:Int)+e)=(if-1074>(bl m:Int)+e-53 then-1074 else(bl m:Int)+e-53):=rfl
  have hVG:∀(k mm ee fg:Int),flK s mode (roM s m e (qU (bl m+e)) mode) (roE m e (qU (bl m+e)))=k→jR s mode (roM s m e (qU (bl m+e)) mode) (roE m e (qU (bl m+e)))=mm→jS s mode (roM s m e (qU (bl m+e)) mode) (roE m e (qU (bl m+e)))=ee→
    yh (bl m+e) (roX m e (qU (bl m+e))) (roM s m e (qU (bl m+e)) mode) (roE m e (qU (bl m+e)))=fg→
    AV.tu [.ag [.v (.int .i64 k),.v (.bool s),.v (.int .i64 mm),.v (.int .i64 ee)],.v (.int .i64 fg)]=.tu [.ag [.v (.int .i64 ((flV s m e mode z).k)),.v (.bool ((flV s m e mode z).s)),.v (.int .i64 ((flV s m e mode z).m)),.v (.int .i64 ((flV s m e mode z).e))],.v (.int .i64 (flG s m e mode))]:=by
   intro k mm ee fg g1 g2 g3 g4
   unfold flV flG
   rw[if_neg h0,if_neg h0,g1,g2,g3,g4]
  have hform:=aIh (s:=s) (m:=m) (e:=e) (mode:=mode) h0
  refine qe (fun h2=>?_) (fun h2=>?_)
  ·have hL:qU ((bl m:Int)+e)= -1074:=by unfold qU;rw[if_pos (by omega)]
   simp(disch:=omega)only[go_sem,h2]
   have hbl:=aM3 (s:=s) (e:=e) (low:= -1074) (mode:=mode) hm
   have hroE: -1000000≤roE m e (-1074)∧roE m e (-1074)≤1000000:=by unfold roE;split<;>omega
   obtain⟨q1,q2⟩:=aMK (s:=s) (e:=e) (low:= -1074) (mode:=mode) hod
   have q3:=aDH (s:=s) (m:=m) (e:=e) (low:= -1074) (mode:=mode)
   refine qa (ZY s m e (-1074) mode hodd hs hmode (by omega) (by omega) (by omega)) ?_ (by simp(disch:=omega)only[go_sem,etop])
   simp(disch:=omega)only[go_sem]
   rw[hL]at hVG hform
   generalize srM s m e (-1074) mode=xm at*
   generalize srE s m e (-1074) mode=xe at*
   generalize oS (roS s m e (-1074) mode) (roM s m e (-1074) mode)=xs at*
   generalize hrm:roM s m e (-1074) mode=rm at*
   generalize hre:roE m e (-1074)=re at*
   generalize hrx:roX m e (-1074)=same at*
   have hxm0:((lim xm).length:Int)=0↔rm=0:=by rw[q1,←qB];exact⟨fun h=>qD.1 (List.length_eq_zero_iff.1 (by omega)),fun h=>by rw[h,ql];rfl⟩
   have hxmb:bl xm≤100001:=by rw[q1];exact Nat.le_trans (qQ (jK rm)) hbl
   have lxm:=qt hxmb
   have hxeb: -2000000≤xe∧xe≤2000000:=by have:=aDL hbl hroE;omega
   have etop2:rm≠0→(if xm=0 then(0:Int)else xe+(bl xm:Int))=(bl rm:Int)+re:=fun h=>by
    have h2:=Jx h
    have h3:xm≠0:=by rw[q1];exact fun e=>h (qB.1 e)
    rw[if_neg h3,q2,q1];unfold oE;rw[if_neg h];omega
   refine z6 (fun h3=>?_) (fun h3=>?_)
   ·simp(disch:=omega)only[go_sem,h3]
    refine qc (zj s m e (by omega) (by omega)) ?_ (by simp(disch:=omega)only[go_sem,etop])
    simp(disch:=omega)only[go_sem]
    simp(disch:=omega)only[go_sem,etop]
    refine qe (fun h4=>?_) (fun h4=>?_)
    ·have hfl:zq (bl m+e) same=5:=by unfold zq;rw[h3,if_neg (by simp),if_pos (by omega)]
     have e5:((1|||4:Nat):Int)=5:=rfl
     simp(disch:=omega)only[go_sem,h4,e5]
     refine qe (fun h5=>?_) (fun h5=>?_)
     ·have hr0:rm=0:=hxm0.1 h5
      simp(disch:=omega)only[go_sem,h5]
      refine qb (by simp(disch:=omega)only[go_sem]) (by simp(disch:=omega)only[go_sem]) ⟨?_,rfl,rfl⟩
      refine hVG 0 0 0 5 (by simp[flK,hr0]) (by simp[jR,hr0]) (by simp[jS,hr0]) (by simp[yh,hr0,hfl])
     ·have hr0:rm≠0:=fun e=>h5 (hxm0.2 e)
      have et2:=etop2 hr0
      have hxs:xs=s:=q3 hr0
      have hff:=hform hr0
      have hM:=Qp hr0 hff
      simp(disch:=omega)only[go_sem,h5]
      refine qc (zj xs xm xe (by omega) (by omega)) ?_ (by simp(disch:=omega)only[go_sem,et2])
      simp(disch:=omega)only[go_sem]
      simp(disch:=omega)only[go_sem,et2]
      refine qe (fun h6=>?_) (fun h6=>?_)
      ·have hov:∀(k mm ee:Int),k=(if ovB s mode then 1 else 2)→mm=(if ovB s mode then 9007199254740991 else 0)→ee=(if ovB s mode then 971 else 0)→AV.tu [.ag [.v (.int .i64 k),.v (.bool s),.v (.int .i64 mm),.v (.int .i64 ee)],.v (.int .i64 3)]=.tu [.ag [.v (.int .i64 ((flV s m e mode z).k)),.v (.bool ((flV s m e mode z).s)),.v (.int .i64 ((flV s m e mode z).m)),.v (.int .i64 ((flV s m e mode z).e))],.v (.int .i64 (flG s m e mode))]:=by
        rintro k mm ee rfl rfl rfl
        exact hVG _ _ _ 3 (by unfold flK;rw[if_neg hr0,if_pos h6]) (by unfold jR;rw[if_neg hr0,if_pos h6]) (by unfold jS;rw[if_neg hr0,if_pos h6]) (by unfold yh;rw[if_pos ⟨hr0,h6⟩])
       clear hVG hform hrm hrx q3 hxs et2 hfl
       obtain rfl|rfl|rfl|rfl|rfl:mode=0∨mode=1∨mode=2∨mode=3∨mode=4:=by omega
       ·cases s
        ·simp(disch:=omega)only[go_sem,h6]
         refine qb (by simp(disch:=omega)only[go_sem]) (by simp(disch:=omega)only[go_sem]) ⟨?_,rfl,rfl⟩
         exact hov _ _ _ rfl rfl rfl
        ·simp(disch:=omega)only[go_sem,h6]
         refine qb (by simp(disch:=omega)only[go_sem]) (by simp(disch:=omega)only[go_sem]) ⟨?_,rfl,rfl⟩
         exact hov _ _ _ rfl rfl rfl
       ·cases s
        ·simp(disch:=omega)only[go_sem,h6]
         refine qc (qG false) ?_
         simp(disch:=omega)only[go_sem]
         refine qb (by simp(disch:=omega)only[go_sem]) (by simp(disch:=omega)only[go_sem]) ⟨?_,rfl,rfl⟩
         exact hov _ _ _ rfl rfl rfl
        ·simp(disch:=omega)only[go_sem,h6]
         refine qc (qG true) ?_
         simp(disch:=omega)only[go_sem]
         refine qb (by simp(disch:=omega)only[go_sem]) (by simp(disch:=omega)only[go_sem]) ⟨?_,rfl,rfl⟩
         exact hov _ _ _ rfl rfl rfl
       ·cases s
        ·simp(disch:=omega)only[go_sem,h6]
         refine qb (by simp(disch:=omega)only[go_sem]) (by simp(disch:=omega)only[go_sem]) ⟨?_,rfl,rfl⟩
         exact hov _ _ _ rfl rfl rfl
        ·simp(disch:=omega)only[go_sem,h6]
         refine qc (qG true) ?_
         simp(disch:=omega)only[go_sem]
         refine qb (by simp(disch:=omega)only[go_sem]) (by simp(disch:=omega)only[go_sem]) ⟨?_,rfl,rfl⟩
         exact hov _ _ _ rfl rfl rfl
       ·cases s
        ·simp(disch:=omega)only[go_sem,h6]
         refine qc (qG false) ?_
         simp(disch:=omega)only[go_sem]
         refine qb (by simp(disch:=omega)only[go_sem]) (by simp(disch:=omega)only[go_sem]) ⟨?_,rfl,rfl⟩
         exact hov _ _ _ rfl rfl rfl
        ·simp(disch:=omega)only[go_sem,h6]
         refine qb (by simp(disch:=omega)only[go_sem]) (by simp(disch:=omega)only[go_sem]) ⟨?_,rfl,rfl⟩
         exact hov _ _ _ rfl rfl rfl
       ·cases s
        ·simp(disch:=omega)only[go_sem,h6]
         refine qb (by simp(disch:=omega)only[go_sem]) (by simp(disch:=omega)only[go_sem]) ⟨?_,rfl,rfl⟩
         exact hov _ _ _ rfl rfl rfl
        ·simp(disch:=omega)only[go_sem,h6]
         refine qb (by simp(disch:=omega)only[go_sem]) (by simp(disch:=omega)only[go_sem]) ⟨?_,rfl,rfl⟩
         exact hov _ _ _ rfl rfl rfl
      ·simp(disch:=omega)only[go_sem,h6]
       refine qc (zj xs xm xe (by omega) (by omega)) ?_ (by simp(disch:=omega)only[go_sem,et2])
       simp(disch:=omega)only[go_sem]
       simp(disch:=omega)only[go_sem,et2]
       have hfin:∀mm:Int,mm=(flM rm re:Int)→AV.tu [.ag [.v (.int .i64 1),.v (.bool xs),.v (.int .i64 mm),.v (.int .i64 (flE rm re))],.v (.int .i64 5)]=.tu [.ag [.v (.int .i64 ((flV s m e mode z).k)),.v (.bool ((flV s m e mode z).s)),.v (.int .i64 ((flV s m e mode z).m)),.v (.int .i64 ((flV s m e mode z).e))],.v (.int .i64 (flG s m e mode))]:=by
        rintro mm rfl
        rw[hxs]
        exact hVG 1 _ _ 5 (by unfold flK;rw[if_neg hr0,if_neg (by omega)]) (by unfold jR;rw[if_neg hr0,if_neg (by omega)]) (by unfold jS;rw[if_neg hr0,if_neg (by omega)]) (by unfold yh;rw[if_neg (by omega),hfl])
       have ek:xe-flE rm re=(((oE rm re-flE rm re).toNat:Nat):Int):=by omega
       have hk9:(oE rm re-flE rm re).toNat≤53:=by have h9:=hM;unfold flM at h9;rw[zn (fun e=>hr0 (qB.1 e))]at h9;omega
       have hM6:flM rm re<2^53:=Nat.lt_of_lt_of_le (jQ _) (Nat.pow_le_pow_right (by omega) hM)
       have eM:xm*2^(oE rm re-flE rm re).toNat=flM rm re:=by rw[q1];rfl
       generalize hkk:(oE rm re-flE rm re).toNat=kk at*
       refine qe (fun h7=>?_) (fun h7=>?_)
       ·have eE:flE rm re= -1074:=by unfold flE qU;rw[if_pos (by omega)]
        simp(disch:=omega)only[go_sem,h7]
        rw[eE]at ek hfin
        try rw[←et2]at hfin
        refine qn rfl [⟨0,[],[]⟩,⟨1,[],[]⟩,⟨2,[],[]⟩,⟨3,[2],[]⟩,⟨4,[2],[]⟩,⟨5,[2],[]⟩,⟨6,[2,5],[]⟩,⟨7,[2,5],[]⟩,⟨8,[2,5,7],[]⟩,⟨9,[2,5],[]⟩,⟨12,[2,5,7],[]⟩,⟨14,[2,5,7],[]⟩,⟨10,[2],[]⟩,⟨11,[2],[]⟩,⟨13,[],[]⟩,⟨15,[],[]⟩,⟨16,[],[]⟩] (by kernel_rfl) ?_
        simp(disch:=omega)only[go_sem]
        refine qE (q9 xm kk (by omega) (by omega)) (by simp(disch:=omega)only[go_sem,ek,et2]) ?_
        rintro r hs ⟨rfl,rfl,_⟩
        refine⟨by simp[qK],?_⟩
        simp(disch:=omega)only[go_sem]
        refine qc (zC (xm*2^kk) (by rw[eM];omega)) ?_
        simp(disch:=omega)only[go_sem]
        refine qb (by simp(disch:=omega)only[go_sem]) (by simp(disch:=omega)only[go_sem]) ⟨?_,rfl,rfl⟩
        exact hfin ((xm*2^kk:Nat):Int) (by rw[eM])
       ·have eE:flE rm re=(bl rm:Int)+re-53:=by unfold flE qU;rw[if_neg (by omega)]
        simp(disch:=omega)only[go_sem,h7]
        rw[eE]at ek hfin
        try rw[←et2]at hfin
        refine qn rfl [⟨0,[],[]⟩,⟨1,[],[]⟩,⟨2,[],[]⟩,⟨3,[2],[]⟩,⟨4,[2],[]⟩,⟨5,[2],[]⟩,⟨6,[2,5],[]⟩,⟨7,[2,5],[]⟩,⟨8,[2,5,7],[]⟩,⟨9,[2,5],[]⟩,⟨12,[2,5,7],[]⟩,⟨14,[2,5,7],[]⟩,⟨10,[2],[]⟩,⟨11,[2],[]⟩,⟨13,[],[]⟩,⟨15,[],[]⟩,⟨16,[],[]⟩] (by kernel_rfl) ?_
        simp(disch:=omega)only[go_sem]
        refine qE (q9 xm kk (by omega) (by omega)) (by simp(disch:=omega)only[go_sem,ek,et2]) ?_
        rintro r hs ⟨rfl,rfl,_⟩
        refine⟨by simp[qK],?_⟩
        simp(disch:=omega)only[go_sem]
        refine qc (zC (xm*2^kk) (by rw[eM];omega)) ?_
        simp(disch:=omega)only[go_sem]
        refine qb (by simp(disch:=omega)only[go_sem]) (by simp(disch:=omega)only[go_sem]) ⟨?_,rfl,rfl⟩
        exact hfin ((xm*2^kk:Nat):Int) (by rw[eM])
    ·have hfl:zq (bl m+e) same=1:=by unfold zq;rw[h3,if_neg (by simp),if_neg (by omega)]
     have e5:=(rfl:(0:Nat)=0)
     simp(disch:=omega)only[go_sem,h4]
     refine qe (fun h5=>?_) (fun h5=>?_)
     ·have hr0:rm=0:=hxm0.1 h5
      simp(disch:=omega)only[go_sem,h5]
      refine qb (by simp(disch:=omega)only[go_sem]) (by simp(disch:=omega)only[go_sem]) ⟨?_,rfl,rfl⟩
      refine hVG 0 0 0 1 (by simp[flK,hr0]) (by simp[jR,hr0]) (by simp[jS,hr0]) (by simp[yh,hr0,hfl])
     ·have hr0:rm≠0:=fun e=>h5 (hxm0.2 e)
      have et2:=etop2 hr0
      have hxs:xs=s:=q3 hr0
      have hff:=hform hr0
      have hM:=Qp hr0 hff
      simp(disch:=omega)only[go_sem,h5]
      refine qc (zj xs xm xe (by omega) (by omega)) ?_ (by simp(disch:=omega)only[go_sem,et2])
      simp(disch:=omega)only[go_sem]
      simp(disch:=omega)only[go_sem,et2]
      refine qe (fun h6=>?_) (fun h6=>?_)
      ·have hov:∀(k mm ee:Int),k=(if ovB s mode then 1 else 2)→mm=(if ovB s mode then 9007199254740991 else 0)→ee=(if ovB s mode then 971 else 0)→AV.tu [.ag [.v (.int .i64 k),.v (.bool s),.v (.int .i64 mm),.v (.int .i64 ee)],.v (.int .i64 3)]=.tu [.ag [.v (.int .i64 ((flV s m e mode z).k)),.v (.bool ((flV s m e mode z).s)),.v (.int .i64 ((flV s m e mode z).m)),.v (.int .i64 ((flV s m e mode z).e))],.v (.int .i64 (flG s m e mode))]:=by
        rintro k mm ee rfl rfl rfl
        exact hVG _ _ _ 3 (by unfold flK;rw[if_neg hr0,if_pos h6]) (by unfold jR;rw[if_neg hr0,if_pos h6]) (by unfold jS;rw[if_neg hr0,if_pos h6]) (by unfold yh;rw[if_pos ⟨hr0,h6⟩])
       clear hVG hform hrm hrx q3 hxs et2 hfl
       obtain rfl|rfl|rfl|rfl|rfl:mode=0∨mode=1∨mode=2∨mode=3∨mode=4:=by omega
       ·cases s
        ·simp(disch:=omega)only[go_sem,h6]
         refine qb (by simp(disch:=omega)only[go_sem]) (by simp(disch:=omega)only[go_sem]) ⟨?_,rfl,rfl⟩
         exact hov _ _ _ rfl rfl rfl
        ·simp(disch:=omega)only[go_sem,h6]
         refine qb (by simp(disch:=omega)only[go_sem]) (by simp(disch:=omega)only[go_sem]) ⟨?_,rfl,rfl⟩
         exact hov _ _ _ rfl rfl rfl
       ·cases s
        ·simp(disch:=omega)only[go_sem,h6]
         refine qc (qG false) ?_
         simp(disch:=omega)only[go_sem]
         refine qb (by simp(disch:=omega)only[go_sem]) (by simp(disch:=omega)only[go_sem]) ⟨?_,rfl,rfl⟩
         exact hov _ _ _ rfl rfl rfl
        ·simp(disch:=omega)only[go_sem,h6]
         refine qc (qG true) ?_
         simp(disch:=omega)only[go_sem]
         refine qb (by simp(disch:=omega)only[go_sem]) (by simp(disch:=omega)only[go_sem]) ⟨?_,rfl,rfl⟩
         exact hov _ _ _ rfl rfl rfl
       ·cases s
        ·simp(disch:=omega)only[go_sem,h6]
         refine qb (by simp(disch:=omega)only[go_sem]) (by simp(disch:=omega)only[go_sem]) ⟨?_,rfl,rfl⟩
         exact hov _ _ _ rfl rfl rfl
        ·simp(disch:=omega)only[go_sem,h6]
         refine qc (qG true) ?_
         simp(disch:=omega)only[go_sem]
         refine qb (by simp(disch:=omega)only[go_sem]) (by simp(disch:=omega)only[go_sem]) ⟨?_,rfl,rfl⟩
         exact hov _ _ _ rfl rfl rfl
       ·cases s
        ·simp(disch:=omega)only[go_sem,h6]
         refine qc (qG false) ?_
         simp(disch:=omega)only[go_sem]
         refine qb (by simp(disch:=omega)only[go_sem]) (by simp(disch:=omega)only[go_sem]) ⟨?_,rfl,rfl⟩
         exact hov _ _ _ rfl rfl rfl
        ·simp(disch:=omega)only[go_sem,h6]
         refine qb (by simp(disch:=omega)only[go_sem]) (by simp(disch:=omega)only[go_sem]) ⟨?_,rfl,rfl⟩
         exact hov _ _ _ rfl rfl rfl
       ·cases s
        ·simp(disch:=omega)only[go_sem,h6]
         refine qb (by simp(disch:=omega)only[go_sem]) (by simp(disch:=omega)only[go_sem]) ⟨?_,rfl,rfl⟩
         exact hov _ _ _ rfl rfl rfl
        ·simp(disch:=omega)only[go_sem,h6]
         refine qb (by simp(disch:=omega)only[go_sem]) (by simp(disch:=omega)only[go_sem]) ⟨?_,rfl,rfl⟩
         exact hov _ _ _ rfl rfl rfl
      ·simp(disch:=omega)only[go_sem,h6]
       refine qc (zj xs xm xe (by omega) (by omega)) ?_ (by simp(disch:=omega)only[go_sem,et2])
       simp(disch:=omega)only[go_sem]
       simp(disch:=omega)only[go_sem,et2]
       have hfin:∀mm:Int,mm=(flM rm re:Int)→AV.tu [.ag [.v (.int .i64 1),.v (.bool xs),.v (.int .i64 mm),.v (.int .i64 (flE rm re))],.v (.int .i64 1)]=.tu [.ag [.v (.int .i64 ((flV s m e mode z).k)),.v (.bool ((flV s m e mode z).s)),.v (.int .i64 ((flV s m e mode z).m)),.v (.int .i64 ((flV s m e mode z).e))],.v (.int .i64 (flG s m e mode))]:=by
        rintro mm rfl
        rw[hxs]
        exact hVG 1 _ _ 1 (by unfold flK;rw[if_neg hr0,if_neg (by omega)]) (by unfold jR;rw[if_neg hr0,if_neg (by omega)]) (by unfold jS;rw[if_neg hr0,if_neg (by omega)]) (by unfold yh;rw[if_neg (by omega),hfl])
       have ek:xe-flE rm re=(((oE rm re-flE rm re).toNat:Nat):Int):=by omega
       have hk9:(oE rm re-flE rm re).toNat≤53:=by have h9:=hM;unfold flM at h9;rw[zn (fun e=>hr0 (qB.1 e))]at h9;omega
       have hM6:flM rm re<2^53:=Nat.lt_of_lt_of_le (jQ _) (Nat.pow_le_pow_right (by omega) hM)
       have eM:xm*2^(oE rm re-flE rm re).toNat=flM rm re:=by rw[q1];rfl
       generalize hkk:(oE rm re-flE rm re).toNat=kk at*
       refine qe (fun h7=>?_) (fun h7=>?_)
       ·have eE:flE rm re= -1074:=by unfold flE qU;rw[if_pos (by omega)]
        simp(disch:=omega)only[go_sem,h7]
        rw[eE]at ek hfin
        try rw[←et2]at hfin
        refine qn rfl [⟨0,[],[]⟩,⟨1,[],[]⟩,⟨2,[],[]⟩,⟨3,[2],[]⟩,⟨4,[2],[]⟩,⟨5,[2],[]⟩,⟨6,[2,5],[]⟩,⟨7,[2,5],[]⟩,⟨8,[2,5,7],[]⟩,⟨9,[2,5],[]⟩,⟨12,[2,5,7],[]⟩,⟨14,[2,5,7],[]⟩,⟨10,[2],[]⟩,⟨11,[2],[]⟩,⟨13,[],[]⟩,⟨15,[],[]⟩,⟨16,[],[]⟩] (by kernel_rfl) ?_
        simp(disch:=omega)only[go_sem]
        refine qE (q9 xm kk (by omega) (by omega)) (by simp(disch:=omega)only[go_sem,ek,et2]) ?_
        rintro r hs ⟨rfl,rfl,_⟩
        refine⟨by simp[qK],?_⟩
        simp(disch:=omega)only[go_sem]
        refine qc (zC (xm*2^kk) (by rw[eM];omega)) ?_
        simp(disch:=omega)only[go_sem]
        refine qb (by simp(disch:=omega)only[go_sem]) (by simp(disch:=omega)only[go_sem]) ⟨?_,rfl,rfl⟩
        exact hfin ((xm*2^kk:Nat):Int) (by rw[eM])
       ·have eE:flE rm re=(bl rm:Int)+re-53:=by unfold flE qU;rw[if_neg (by omega)]
        simp(disch:=omega)only[go_sem,h7]
        rw[eE]at ek hfin
        try rw[←et2]at hfin
        refine qn rfl [⟨0,[],[]⟩,⟨1,[],[]⟩,⟨2,[],[]⟩,⟨3,[2],[]⟩,⟨4,[2],[]⟩,⟨5,[2],[]⟩,⟨6,[2,5],[]⟩,⟨7,[2,5],[]⟩,⟨8,[2,5,7],[]⟩,⟨9,[2,5],[]⟩,⟨12,[2,5,7],[]⟩,⟨14,[2,5,7],[]⟩,⟨10,[2],[]⟩,⟨11,[2],[]⟩,⟨13,[],[]⟩,⟨15,[],[]⟩,⟨16,[],[]⟩] (by kernel_rfl) ?_
        simp(disch:=omega)only[go_sem]
        refine qE (q9 xm kk (by omega) (by omega)) (by simp(disch:=omega)only[go_sem,ek,et2]) ?_
        rintro r hs ⟨rfl,rfl,_⟩
        refine⟨by simp[qK],?_⟩
        simp(disch:=omega)only[go_sem]
        refine qc (zC (xm*2^kk) (by rw[eM];omega)) ?_
        simp(disch:=omega)only[go_sem]
        refine qb (by simp(disch:=omega)only[go_sem]) (by simp(disch:=omega)only[go_sem]) ⟨?_,rfl,rfl⟩
        exact hfin ((xm*2^kk:Nat):Int) (by rw[eM])
   ·have hfl:zq (bl m+e) same=0:=by unfold zq;rw[h3,if_pos rfl]
    have e5:=(rfl:(0:Nat)=0)
    simp(disch:=omega)only[go_sem,h3]
    refine qe (fun h5=>?_) (fun h5=>?_)
    ·have hr0:rm=0:=hxm0.1 h5
     simp(disch:=omega)only[go_sem,h5]
     refine qb (by simp(disch:=omega)only[go_sem]) (by simp(disch:=omega)only[go_sem]) ⟨?_,rfl,rfl⟩
     refine hVG 0 0 0 0 (by simp[flK,hr0]) (by simp[jR,hr0]) (by simp[jS,hr0]) (by simp[yh,hr0,hfl])
    ·have hr0:rm≠0:=fun e=>h5 (hxm0.2 e)
     have et2:=etop2 hr0
     have hxs:xs=s:=q3 hr0
     have hff:=hform hr0
     have hM:=Qp hr0 hff
     simp(disch:=omega)only[go_sem,h5]
     refine qc (zj xs xm xe (by omega) (by omega)) ?_ (by simp(disch:=omega)only[go_sem,et2])
     simp(disch:=omega)only[go_sem]
     simp(disch:=omega)only[go_sem,et2]
     refine qe (fun h6=>?_) (fun h6=>?_)
     ·have hov:∀(k mm ee:Int),k=(if ovB s mode then 1 else 2)→mm=(if ovB s mode then 9007199254740991 else 0)→ee=(if ovB s mode then 971 else 0)→AV.tu [.ag [.v (.int .i64 k),.v (.bool s),.v (.int .i64 mm),.v (.int .i64 ee)],.v (.int .i64 3)]=.tu [.ag [.v (.int .i64 ((flV s m e mode z).k)),.v (.bool ((flV s m e mode z).s)),.v (.int .i64 ((flV s m e mode z).m)),.v (.int .i64 ((flV s m e mode z).e))],.v (.int .i64 (flG s m e mode))]:=by
       rintro k mm ee rfl rfl rfl
       exact hVG _ _ _ 3 (by unfold flK;rw[if_neg hr0,if_pos h6]) (by unfold jR;rw[if_neg hr0,if_pos h6]) (by unfold jS;rw[if_neg hr0,if_pos h6]) (by unfold yh;rw[if_pos ⟨hr0,h6⟩])
      clear hVG hform hrm hrx q3 hxs et2 hfl
      obtain rfl|rfl|rfl|rfl|rfl:mode=0∨mode=1∨mode=2∨mode=3∨mode=4:=by omega
      ·cases s
       ·simp(disch:=omega)only[go_sem,h6]
        refine qb (by simp(disch:=omega)only[go_sem]) (by simp(disch:=omega)only[go_sem]) ⟨?_,rfl,rfl⟩
        exact hov _ _ _ rfl rfl rfl
       ·simp(disch:=omega)only[go_sem,h6]
        refine qb (by simp(disch:=omega)only[go_sem]) (by simp(disch:=omega)only[go_sem]) ⟨?_,rfl,rfl⟩
        exact hov _ _ _ rfl rfl rfl
      ·cases s
       ·simp(disch:=omega)only[go_sem,h6]
        refine qc (qG false) ?_
        simp(disch:=omega)only[go_sem]
        refine qb (by simp(disch:=omega)only[go_sem]) (by simp(disch:=omega)only[go_sem]) ⟨?_,rfl,rfl⟩
        exact hov _ _ _ rfl rfl rfl
       ·simp(disch:=omega)only[go_sem,h6]
        refine qc (qG true) ?_
        simp(disch:=omega)only[go_sem]
        refine qb (by simp(disch:=omega)only[go_sem]) (by simp(disch:=omega)only[go_sem]) ⟨?_,rfl,rfl⟩
        exact hov _ _ _ rfl rfl rfl
      ·cases s
       ·simp(disch:=omega)only[go_sem,h6]
        refine qb (by simp(disch:=omega)only[go_sem]) (by simp(disch:=omega)only[go_sem]) ⟨?_,rfl,rfl⟩
        exact hov _ _ _ rfl rfl rfl
       ·simp(disch:=omega)only[go_sem,h6]
        refine qc (qG true) ?_
        simp(disch:=omega)only[go_sem]
        refine qb (by simp(disch:=omega)only[go_sem]) (by simp(disch:=omega)only[go_sem]) ⟨?_,rfl,rfl⟩
        exact hov _ _ _ rfl rfl rfl
      ·cases s
       ·simp(disch:=omega)only[go_sem,h6]
        refine qc (qG false) ?_
        simp(disch:=omega)only[go_sem]
        refine qb (by simp(disch:=omega)only[go_sem]) (by simp(disch:=omega)only[go_sem]) ⟨?_,rfl,rfl⟩
        exact hov _ _ _ rfl rfl rfl
       ·simp(disch:=omega)only[go_sem,h6]
        refine qb (by simp(disch:=omega)only[go_sem]) (by simp(disch:=omega)only[go_sem]) ⟨?_,rfl,rfl⟩
        exact hov _ _ _ rfl rfl rfl
      ·cases s
       ·simp(disch:=omega)only[go_sem,h6]
        refine qb (by simp(disch:=omega)only[go_sem]) (by simp(disch:=omega)only[go_sem]) ⟨?_,rfl,rfl⟩
        exact hov _ _ _ rfl rfl rfl
       ·simp(disch:=omega)only[go_sem,h6]
        refine qb (by simp(disch:=omega)only[go_sem]) (by simp(disch:=omega)only[go_sem]) ⟨?_,rfl,rfl⟩
        exact hov _ _ _ rfl rfl rfl
     ·simp(disch:=omega)only[go_sem,h6]
      refine qc (zj xs xm xe (by omega) (by omega)) ?_ (by simp(disch:=omega)only[go_sem,et2])
      simp(disch:=omega)only[go_sem]
      simp(disch:=omega)only[go_sem,et2]
      have hfin:∀mm:Int,mm=(flM rm re:Int)→AV.tu [.ag [.v (.int .i64 1),.v (.bool xs),.v (.int .i64 mm),.v (.int .i64 (flE rm re))],.v (.int .i64 0)]=.tu [.ag [.v (.int .i64 ((flV s m e mode z).k)),.v (.bool ((flV s m e mode z).s)),.v (.int .i64 ((flV s m e mode z).m)),.v (.int .i64 ((flV s m e mode z).e))],.v (.int .i64 (flG s m e mode))]:=by
       rintro mm rfl
       rw[hxs]
       exact hVG 1 _ _ 0 (by unfold flK;rw[if_neg hr0,if_neg (by omega)]) (by unfold jR;rw[if_neg hr0,if_neg (by omega)]) (by unfold jS;rw[if_neg hr0,if_neg (by omega)]) (by unfold yh;rw[if_neg (by omega),hfl])
      have ek:xe-flE rm re=(((oE rm re-flE rm re).toNat:Nat):Int):=by omega
      have hk9:(oE rm re-flE rm re).toNat≤53:=by have h9:=hM;unfold flM at h9;rw[zn (fun e=>hr0 (qB.1 e))]at h9;omega
      have hM6:flM rm re<2^53:=Nat.lt_of_lt_of_le (jQ _) (Nat.pow_le_pow_right (by omega) hM)
      have eM:xm*2^(oE rm re-flE rm re).toNat=flM rm re:=by rw[q1];rfl
      generalize hkk:(oE rm re-flE rm re).toNat=kk at*
      refine qe (fun h7=>?_) (fun h7=>?_)
      ·have eE:flE rm re= -1074:=by unfold flE qU;rw[if_pos (by omega)]
       simp(disch:=omega)only[go_sem,h7]
       rw[eE]at ek hfin
       try rw[←et2]at hfin
       refine qn rfl [⟨0,[],[]⟩,⟨1,[],[]⟩,⟨2,[],[]⟩,⟨3,[2],[]⟩,⟨4,[2],[]⟩,⟨5,[2],[]⟩,⟨6,[2,5],[]⟩,⟨7,[2,5],[]⟩,⟨8,[2,5,7],[]⟩,⟨9,[2,5],[]⟩,⟨12,[2,5,7],[]⟩,⟨14,[2,5,7],[]⟩,⟨10,[2],[]⟩,⟨11,[2],[]⟩,⟨13,[],[]⟩,⟨15,[],[]⟩,⟨16,[],[]⟩] (by kernel_rfl) ?_
       simp(disch:=omega)only[go_sem]
       refine qE (q9 xm kk (by omega) (by omega)) (by simp(disch:=omega)only[go_sem,ek,et2]) ?_
       rintro r hs ⟨rfl,rfl,_⟩
       refine⟨by simp[qK],?_⟩
       simp(disch:=omega)only[go_sem]
       refine qc (zC (xm*2^kk) (by rw[eM];omega)) ?_
       simp(disch:=omega)only[go_sem]
       refine qb (by simp(disch:=omega)only[go_sem]) (by simp(disch:=omega)only[go_sem]) ⟨?_,rfl,rfl⟩
       exact hfin ((xm*2^kk:Nat):Int) (by rw[eM])
      ·have eE:flE rm re=(bl rm:Int)+re-53:=by unfold flE qU;rw[if_neg (by omega)]
       simp(disch:=omega)only[go_sem,h7]
       rw[eE]at ek hfin
       try rw[←et2]at hfin
       refine qn rfl [⟨0,[],[]⟩,⟨1,[],[]⟩,⟨2,[],[]⟩,⟨3,[2],[]⟩,⟨4,[2],[]⟩,⟨5,[2],[]⟩,⟨6,[2,5],[]⟩,⟨7,[2,5],[]⟩,⟨8,[2,5,7],[]⟩,⟨9,[2,5],[]⟩,⟨12,[2,5,7],[]⟩,⟨14,[2,5,7],[]⟩,⟨10,[2],[]⟩,⟨11,[2],[]⟩,⟨13,[],[]⟩,⟨15,[],[]⟩,⟨16,[],[]⟩] (by kernel_rfl) ?_
       simp(disch:=omega)only[go_sem]
       refine qE (q9 xm kk (by omega) (by omega)) (by simp(disch:=omega)only[go_sem,ek,et2]) ?_
       rintro r hs ⟨rfl,rfl,_⟩
       refine⟨by simp[qK],?_⟩
       simp(disch:=omega)only[go_sem]
       refine qc (zC (xm*2^kk) (by rw[eM];omega)) ?_
       simp(disch:=omega)only[go_sem]
       refine qb (by simp(disch:=omega)only[go_sem]) (by simp(disch:=omega)only[go_sem]) ⟨?_,rfl,rfl⟩
       exact hfin ((xm*2^kk:Nat):Int) (by rw[eM])
  ·have hL:qU ((bl m:Int)+e)=(bl m:Int)+e-53:=by unfold qU;rw[if_neg (by omega)]
   simp(disch:=omega)only[go_sem,h2]
   have hbl:=aM3 (s:=s) (e:=e) (low:=(bl m:Int)+e-53) (mode:=mode) hm
   have hroE: -1000000≤roE m e ((bl m:Int)+e-53)∧roE m e ((bl m:Int)+e-53)≤1000000:=by unfold roE;split<;>omega
   obtain⟨q1,q2⟩:=aMK (s:=s) (e:=e) (low:=(bl m:Int)+e-53) (mode:=mode) hod
   have q3:=aDH (s:=s) (m:=m) (e:=e) (low:=(bl m:Int)+e-53) (mode:=mode)
   refine qa (ZY s m e ((bl m:Int)+e-53) mode hodd hs hmode (by omega) (by omega) (by omega)) ?_ (by simp(disch:=omega)only[go_sem,etop])
   simp(disch:=omega)only[go_sem]
   rw[hL]at hVG hform
   generalize srM s m e ((bl m:Int)+e-53) mode=xm at*
   generalize srE s m e ((bl m:Int)+e-53) mode=xe at*
   generalize oS (roS s m e ((bl m:Int)+e-53) mode) (roM s m e ((bl m:Int)+e-53) mode)=xs at*
   generalize hrm:roM s m e ((bl m:Int)+e-53) mode=rm at*
   generalize hre:roE m e ((bl m:Int)+e-53)=re at*
   generalize hrx:roX m e ((bl m:Int)+e-53)=same at*
   have hxm0:((lim xm).length:Int)=0↔rm=0:=by rw[q1,←qB];exact⟨fun h=>qD.1 (List.length_eq_zero_iff.1 (by omega)),fun h=>by rw[h,ql];rfl⟩
   have hxmb:bl xm≤100001:=by rw[q1];exact Nat.le_trans (qQ (jK rm)) hbl
   have lxm:=qt hxmb
   have hxeb: -2000000≤xe∧xe≤2000000:=by have:=aDL hbl hroE;omega
   have etop2:rm≠0→(if xm=0 then(0:Int)else xe+(bl xm:Int))=(bl rm:Int)+re:=fun h=>by
    have h2:=Jx h
    have h3:xm≠0:=by rw[q1];exact fun e=>h (qB.1 e)
    rw[if_neg h3,q2,q1];unfold oE;rw[if_neg h];omega
   refine z6 (fun h3=>?_) (fun h3=>?_)
   ·simp(disch:=omega)only[go_sem,h3]
    refine qc (zj s m e (by omega) (by omega)) ?_ (by simp(disch:=omega)only[go_sem,etop])
    simp(disch:=omega)only[go_sem]
    simp(disch:=omega)only[go_sem,etop]
    refine qe (fun h4=>?_) (fun h4=>?_)
    ·have hfl:zq (bl m+e) same=5:=by unfold zq;rw[h3,if_neg (by simp),if_pos (by omega)]
     have e5:((1|||4:Nat):Int)=5:=rfl
     simp(disch:=omega)only[go_sem,h4,e5]
     refine qe (fun h5=>?_) (fun h5=>?_)
     ·have hr0:rm=0:=hxm0.1 h5
      simp(disch:=omega)only[go_sem,h5]
      refine qb (by simp(disch:=omega)only[go_sem]) (by simp(disch:=omega)only[go_sem]) ⟨?_,rfl,rfl⟩
      refine hVG 0 0 0 5 (by simp[flK,hr0]) (by simp[jR,hr0]) (by simp[jS,hr0]) (by simp[yh,hr0,hfl])
     ·have hr0:rm≠0:=fun e=>h5 (hxm0.2 e)
      have et2:=etop2 hr0
      have hxs:xs=s:=q3 hr0
      have hff:=hform hr0
      have hM:=Qp hr0 hff
      simp(disch:=omega)only[go_sem,h5]
      refine qc (zj xs xm xe (by omega) (by omega)) ?_ (by simp(disch:=omega)only[go_sem,et2])
      simp(disch:=omega)only[go_sem]
      simp(disch:=omega)only[go_sem,et2]
      refine qe (fun h6=>?_) (fun h6=>?_)
      ·have hov:∀(k mm ee:Int),k=(if ovB s mode then 1 else 2)→mm=(if ovB s mode then 9007199254740991 else 0)→ee=(if ovB s mode then 971 else 0)→AV.tu [.ag [.v (.int .i64 k),.v (.bool s),.v (.int .i64 mm),.v (.int .i64 ee)],.v (.int .i64 3)]=.tu [.ag [.v (.int .i64 ((flV s m e mode z).k)),.v (.bool ((flV s m e mode z).s)),.v (.int .i64 ((flV s m e mode z).m)),.v (.int .i64 ((flV s m e mode z).e))],.v (.int .i64 (flG s m e mode))]:=by
        rintro k mm ee rfl rfl rfl
        exact hVG _ _ _ 3 (by unfold flK;rw[if_neg hr0,if_pos h6]) (by unfold jR;rw[if_neg hr0,if_pos h6]) (by unfold jS;rw[if_neg hr0,if_pos h6]) (by unfold yh;rw[if_pos ⟨hr0,h6⟩])
       clear hVG hform hrm hrx q3 hxs et2 hfl
       obtain rfl|rfl|rfl|rfl|rfl:mode=0∨mode=1∨mode=2∨mode=3∨mode=4:=by omega
       ·cases s
        ·simp(disch:=omega)only[go_sem,h6]
         refine qb (by simp(disch:=omega)only[go_sem]) (by simp(disch:=omega)only[go_sem]) ⟨?_,rfl,rfl⟩
         exact hov _ _ _ rfl rfl rfl
        ·simp(disch:=omega)only[go_sem,h6]
         refine qb (by simp(disch:=omega)only[go_sem]) (by simp(disch:=omega)only[go_sem]) ⟨?_,rfl,rfl⟩
         exact hov _ _ _ rfl rfl rfl
       ·cases s
        ·simp(disch:=omega)only[go_sem,h6]
         refine qc (qG false) ?_
         simp(disch:=omega)only[go_sem]
         refine qb (by simp(disch:=omega)only[go_sem]) (by simp(disch:=omega)only[go_sem]) ⟨?_,rfl,rfl⟩
         exact hov _ _ _ rfl rfl rfl
        ·simp(disch:=omega)only[go_sem,h6]
         refine qc (qG true) ?_
         simp(disch:=omega)only[go_sem]
         refine qb (by simp(disch:=omega)only[go_sem]) (by simp(disch:=omega)only[go_sem]) ⟨?_,rfl,rfl⟩
         exact hov _ _ _ rfl rfl rfl
       ·cases s
        ·simp(disch:=omega)only[go_sem,h6]
         refine qb (by simp(disch:=omega)only[go_sem]) (by simp(disch:=omega)only[go_sem]) ⟨?_,rfl,rfl⟩
         exact hov _ _ _ rfl rfl rfl
        ·simp(disch:=omega)only[go_sem,h6]
         refine qc (qG true) ?_
         simp(disch:=omega)only[go_sem]
         refine qb (by simp(disch:=omega)only[go_sem]) (by simp(disch:=omega)only[go_sem]) ⟨?_,rfl,rfl⟩
         exact hov _ _ _ rfl rfl rfl
       ·cases s
        ·simp(disch:=omega)only[go_sem,h6]
         refine qc (qG false) ?_
         simp(disch:=omega)only[go_sem]
         refine qb (by simp(disch:=omega)only[go_sem]) (by simp(disch:=omega)only[go_sem]) ⟨?_,rfl,rfl⟩
         exact hov _ _ _ rfl rfl rfl
        ·simp(disch:=omega)only[go_sem,h6]
         refine qb (by simp(disch:=omega)only[go_sem]) (by simp(disch:=omega)only[go_sem]) ⟨?_,rfl,rfl⟩
         exact hov _ _ _ rfl rfl rfl
       ·cases s
        ·simp(disch:=omega)only[go_sem,h6]
         refine qb (by simp(disch:=omega)only[go_sem]) (by simp(disch:=omega)only[go_sem]) ⟨?_,rfl,rfl⟩
         exact hov _ _ _ rfl rfl rfl
        ·simp(disch:=omega)only[go_sem,h6]
         refine qb (by simp(disch:=omega)only[go_sem]) (by simp(disch:=omega)only[go_sem]) ⟨?_,rfl,rfl⟩
         exact hov _ _ _ rfl rfl rfl
      ·simp(disch:=omega)only[go_sem,h6]
       refine qc (zj xs xm xe (by omega) (by omega)) ?_ (by simp(disch:=omega)only[go_sem,et2])
       simp(disch:=omega)only[go_sem]
       simp(disch:=omega)only[go_sem,et2]
       have hfin:∀mm:Int,mm=(flM rm re:Int)→AV.tu [.ag [.v (.int .i64 1),.v (.bool xs),.v (.int .i64 mm),.v (.int .i64 (flE rm re))],.v (.int .i64 5)]=.tu [.ag [.v (.int .i64 ((flV s m e mode z).k)),.v (.bool ((flV s m e mode z).s)),.v (.int .i64 ((flV s m e mode z).m)),.v (.int .i64 ((flV s m e mode z).e))],.v (.int .i64 (flG s m e mode))]:=by
        rintro mm rfl
        rw[hxs]
        exact hVG 1 _ _ 5 (by unfold flK;rw[if_neg hr0,if_neg (by omega)]) (by unfold jR;rw[if_neg hr0,if_neg (by omega)]) (by unfold jS;rw[if_neg hr0,if_neg (by omega)]) (by unfold yh;rw[if_neg (by omega),hfl])
       have ek:xe-flE rm re=(((oE rm re-flE rm re).toNat:Nat):Int):=by omega
       have hk9:(oE rm re-flE rm re).toNat≤53:=by have h9:=hM;unfold flM at h9;rw[zn (fun e=>hr0 (qB.1 e))]at h9;omega
       have hM6:flM rm re<2^53:=Nat.lt_of_lt_of_le (jQ _) (Nat.pow_le_pow_right (by omega) hM)
       have eM:xm*2^(oE rm re-flE rm re).toNat=flM rm re:=by rw[q1];rfl
       generalize hkk:(oE rm re-flE rm re).toNat=kk at*
       refine qe (fun h7=>?_) (fun h7=>?_)
       ·have eE:flE rm re= -1074:=by unfold flE qU;rw[if_pos (by omega)]
        simp(disch:=omega)only[go_sem,h7]
        rw[eE]at ek hfin
        try rw[←et2]at hfin
        refine qn rfl [⟨0,[],[]⟩,⟨1,[],[]⟩,⟨2,[],[]⟩,⟨3,[2],[]⟩,⟨4,[2],[]⟩,⟨5,[2],[]⟩,⟨6,[2,5],[]⟩,⟨7,[2,5],[]⟩,⟨8,[2,5,7],[]⟩,⟨9,[2,5],[]⟩,⟨12,[2,5,7],[]⟩,⟨14,[2,5,7],[]⟩,⟨10,[2],[]⟩,⟨11,[2],[]⟩,⟨13,[],[]⟩,⟨15,[],[]⟩,⟨16,[],[]⟩] (by kernel_rfl) ?_
        simp(disch:=omega)only[go_sem]
        refine qE (q9 xm kk (by omega) (by omega)) (by simp(disch:=omega)only[go_sem,ek,et2]) ?_
        rintro r hs ⟨rfl,rfl,_⟩
        refine⟨by simp[qK],?_⟩
        simp(disch:=omega)only[go_sem]
        refine qc (zC (xm*2^kk) (by rw[eM];omega)) ?_
        simp(disch:=omega)only[go_sem]
        refine qb (by simp(disch:=omega)only[go_sem]) (by simp(disch:=omega)only[go_sem]) ⟨?_,rfl,rfl⟩
        exact hfin ((xm*2^kk:Nat):Int) (by rw[eM])
       ·have eE:flE rm re=(bl rm:Int)+re-53:=by unfold flE qU;rw[if_neg (by omega)]
        simp(disch:=omega)only[go_sem,h7]
        rw[eE]at ek hfin
        try rw[←et2]at hfin
        refine qn rfl [⟨0,[],[]⟩,⟨1,[],[]⟩,⟨2,[],[]⟩,⟨3,[2],[]⟩,⟨4,[2],[]⟩,⟨5,[2],[]⟩,⟨6,[2,5],[]⟩,⟨7,[2,5],[]⟩,⟨8,[2,5,7],[]⟩,⟨9,[2,5],[]⟩,⟨12,[2,5,7],[]⟩,⟨14,[2,5,7],[]⟩,⟨10,[2],[]⟩,⟨11,[2],[]⟩,⟨13,[],[]⟩,⟨15,[],[]⟩,⟨16,[],[]⟩] (by kernel_rfl) ?_
        simp(disch:=omega)only[go_sem]
        refine qE (q9 xm kk (by omega) (by omega)) (by simp(disch:=omega)only[go_sem,ek,et2]) ?_
        rintro r hs ⟨rfl,rfl,_⟩
        refine⟨by simp[qK],?_⟩
        simp(disch:=omega)only[go_sem]
        refine qc (zC (xm*2^kk) (by rw[eM];omega)) ?_
        simp(disch:=omega)only[go_sem]
        refine qb (by simp(disch:=omega)only[go_sem]) (by simp(disch:=omega)only[go_sem]) ⟨?_,rfl,rfl⟩
        exact hfin ((xm*2^kk:Nat):Int) (by rw[eM])
    ·have hfl:zq (bl m+e) same=1:=by unfold zq;rw[h3,if_neg (by simp),if_neg (by omega)]
     have e5:=(rfl:(0:Nat)=0)
     simp(disch:=omega)only[go_sem,h4]
     refine qe (fun h5=>?_) (fun h5=>?_)
     ·have hr0:rm=0:=hxm0.1 h5
      simp(disch:=omega)only[go_sem,h5]
      refine qb (by simp(disch:=omega)only[go_sem]) (by simp(disch:=omega)only[go_sem]) ⟨?_,rfl,rfl⟩
      refine hVG 0 0 0 1 (by simp[flK,hr0]) (by simp[jR,hr0]) (by simp[jS,hr0]) (by simp[yh,hr0,hfl])
     ·have hr0:rm≠0:=fun e=>h5 (hxm0.2 e)
      have et2:=etop2 hr0
      have hxs:xs=s:=q3 hr0
      have hff:=hform hr0
      have hM:=Qp hr0 hff
      simp(disch:=omega)only[go_sem,h5]
      refine qc (zj xs xm xe (by omega) (by omega)) ?_ (by simp(disch:=omega)only[go_sem,et2])
      simp(disch:=omega)only[go_sem]
      simp(disch:=omega)only[go_sem,et2]
      refine qe (fun h6=>?_) (fun h6=>?_)
      ·have hov:∀(k mm ee:Int),k=(if ovB s mode then 1 else 2)→mm=(if ovB s mode then 9007199254740991 else 0)→ee=(if ovB s mode then 971 else 0)→AV.tu [.ag [.v (.int .i64 k),.v (.bool s),.v (.int .i64 mm),.v (.int .i64 ee)],.v (.int .i64 3)]=.tu [.ag [.v (.int .i64 ((flV s m e mode z).k)),.v (.bool ((flV s m e mode z).s)),.v (.int .i64 ((flV s m e mode z).m)),.v (.int .i64 ((flV s m e mode z).e))],.v (.int .i64 (flG s m e mode))]:=by
        rintro k mm ee rfl rfl rfl
        exact hVG _ _ _ 3 (by unfold flK;rw[if_neg hr0,if_pos h6]) (by unfold jR;rw[if_neg hr0,if_pos h6]) (by unfold jS;rw[if_neg hr0,if_pos h6]) (by unfold yh;rw[if_pos ⟨hr0,h6⟩])
       clear hVG hform hrm hrx q3 hxs et2 hfl
       obtain rfl|rfl|rfl|rfl|rfl:mode=0∨mode=1∨mode=2∨mode=3∨mode=4:=by omega
       ·cases s
        ·simp(disch:=omega)only[go_sem,h6]
         refine qb (by simp(disch:=omega)only[go_sem]) (by simp(disch:=omega)only[go_sem]) ⟨?_,rfl,rfl⟩
         exact hov _ _ _ rfl rfl rfl
        ·simp(disch:=omega)only[go_sem,h6]
         refine qb (by simp(disch:=omega)only[go_sem]) (by simp(disch:=omega)only[go_sem]) ⟨?_,rfl,rfl⟩
         exact hov _ _ _ rfl rfl rfl
       ·cases s
        ·simp(disch:=omega)only[go_sem,h6]
         refine qc (qG false) ?_
         simp(disch:=omega)only[go_sem]
         refine qb (by simp(disch:=omega)only[go_sem]) (by simp(disch:=omega)only[go_sem]) ⟨?_,rfl,rfl⟩
         exact hov _ _ _ rfl rfl rfl
        ·simp(disch:=omega)only[go_sem,h6]
         refine qc (qG true) ?_
         simp(disch:=omega)only[go_sem]
         refine qb (by simp(disch:=omega)only[go_sem]) (by simp(disch:=omega)only[go_sem]) ⟨?_,rfl,rfl⟩
         exact hov _ _ _ rfl rfl rfl
       ·cases s
        ·simp(disch:=omega)only[go_sem,h6]
         refine qb (by simp(disch:=omega)only[go_sem]) (by simp(disch:=omega)only[go_sem]) ⟨?_,rfl,rfl⟩
         exact hov _ _ _ rfl rfl rfl
        ·simp(disch:=omega)only[go_sem,h6]
         refine qc (qG true) ?_
         simp(disch:=omega)only[go_sem]
         refine qb (by simp(disch:=omega)only[go_sem]) (by simp(disch:=omega)only[go_sem]) ⟨?_,rfl,rfl⟩
         exact hov _ _ _ rfl rfl rfl
       ·cases s
        ·simp(disch:=omega)only[go_sem,h6]
         refine qc (qG false) ?_
         simp(disch:=omega)only[go_sem]
         refine qb (by simp(disch:=omega)only[go_sem]) (by simp(disch:=omega)only[go_sem]) ⟨?_,rfl,rfl⟩
         exact hov _ _ _ rfl rfl rfl
        ·simp(disch:=omega)only[go_sem,h6]
         refine qb (by simp(disch:=omega)only[go_sem]) (by simp(disch:=omega)only[go_sem]) ⟨?_,rfl,rfl⟩
         exact hov _ _ _ rfl rfl rfl
       ·cases s
        ·simp(disch:=omega)only[go_sem,h6]
         refine qb (by simp(disch:=omega)only[go_sem]) (by simp(disch:=omega)only[go_sem]) ⟨?_,rfl,rfl⟩
         exact hov _ _ _ rfl rfl rfl
        ·simp(disch:=omega)only[go_sem,h6]
         refine qb (by simp(disch:=omega)only[go_sem]) (by simp(disch:=omega)only[go_sem]) ⟨?_,rfl,rfl⟩
         exact hov _ _ _ rfl rfl rfl
      ·simp(disch:=omega)only[go_sem,h6]
       refine qc (zj xs xm xe (by omega) (by omega)) ?_ (by simp(disch:=omega)only[go_sem,et2])
       simp(disch:=omega)only[go_sem]
       simp(disch:=omega)only[go_sem,et2]
       have hfin:∀mm:Int,mm=(flM rm re:Int)→AV.tu [.ag [.v (.int .i64 1),.v (.bool xs),.v (.int .i64 mm),.v (.int .i64 (flE rm re))],.v (.int .i64 1)]=.tu [.ag [.v (.int .i64 ((flV s m e mode z).k)),.v (.bool ((flV s m e mode z).s)),.v (.int .i64 ((flV s m e mode z).m)),.v (.int .i64 ((flV s m e mode z).e))],.v (.int .i64 (flG s m e mode))]:=by
        rintro mm rfl
        rw[hxs]
        exact hVG 1 _ _ 1 (by unfold flK;rw[if_neg hr0,if_neg (by omega)]) (by unfold jR;rw[if_neg hr0,if_neg (by omega)]) (by unfold jS;rw[if_neg hr0,if_neg (by omega)]) (by unfold yh;rw[if_neg (by omega),hfl])
       have ek:xe-flE rm re=(((oE rm re-flE rm re).toNat:Nat):Int):=by omega
       have hk9:(oE rm re-flE rm re).toNat≤53:=by have h9:=hM;unfold flM at h9;rw[zn (fun e=>hr0 (qB.1 e))]at h9;omega
       have hM6:flM rm re<2^53:=Nat.lt_of_lt_of_le (jQ _) (Nat.pow_le_pow_right (by omega) hM)
       have eM:xm*2^(oE rm re-flE rm re).toNat=flM rm re:=by rw[q1];rfl
       generalize hkk:(oE rm re-flE rm re).toNat=kk at*
       refine qe (fun h7=>?_) (fun h7=>?_)
       ·have eE:flE rm re= -1074:=by unfold flE qU;rw[if_pos (by omega)]
        simp(disch:=omega)only[go_sem,h7]
        rw[eE]at ek hfin
        try rw[←et2]at hfin
        refine qn rfl [⟨0,[],[]⟩,⟨1,[],[]⟩,⟨2,[],[]⟩,⟨3,[2],[]⟩,⟨4,[2],[]⟩,⟨5,[2],[]⟩,⟨6,[2,5],[]⟩,⟨7,[2,5],[]⟩,⟨8,[2,5,7],[]⟩,⟨9,[2,5],[]⟩,⟨12,[2,5,7],[]⟩,⟨14,[2,5,7],[]⟩,⟨10,[2],[]⟩,⟨11,[2],[]⟩,⟨13,[],[]⟩,⟨15,[],[]⟩,⟨16,[],[]⟩] (by kernel_rfl) ?_
        simp(disch:=omega)only[go_sem]
        refine qE (q9 xm kk (by omega) (by omega)) (by simp(disch:=omega)only[go_sem,ek,et2]) ?_
        rintro r hs ⟨rfl,rfl,_⟩
        refine⟨by simp[qK],?_⟩
        simp(disch:=omega)only[go_sem]
        refine qc (zC (xm*2^kk) (by rw[eM];omega)) ?_
        simp(disch:=omega)only[go_sem]
        refine qb (by simp(disch:=omega)only[go_sem]) (by simp(disch:=omega)only[go_sem]) ⟨?_,rfl,rfl⟩
        exact hfin ((xm*2^kk:Nat):Int) (by rw[eM])
       ·have eE:flE rm re=(bl rm:Int)+re-53:=by unfold flE qU;rw[if_neg (by omega)]
        simp(disch:=omega)only[go_sem,h7]
        rw[eE]at ek hfin
        try rw[←et2]at hfin
        refine qn rfl [⟨0,[],[]⟩,⟨1,[],[]⟩,⟨2,[],[]⟩,⟨3,[2],[]⟩,⟨4,[2],[]⟩,⟨5,[2],[]⟩,⟨6,[2,5],[]⟩,⟨7,[2,5],[]⟩,⟨8,[2,5,7],[]⟩,⟨9,[2,5],[]⟩,⟨12,[2,5,7],[]⟩,⟨14,[2,5,7],[]⟩,⟨10,[2],[]⟩,⟨11,[2],[]⟩,⟨13,[],[]⟩,⟨15,[],[]⟩,⟨16,[],[]⟩] (by kernel_rfl) ?_
        simp(disch:=omega)only[go_sem]
        refine qE (q9 xm kk (by omega) (by omega)) (by simp(disch:=omega)only[go_sem,ek,et2]) ?_
        rintro r hs ⟨rfl,rfl,_⟩
        refine⟨by simp[qK],?_⟩
        simp(disch:=omega)only[go_sem]
        refine qc (zC (xm*2^kk) (by rw[eM];omega)) ?_
        simp(disch:=omega)only[go_sem]
        refine qb (by simp(disch:=omega)only[go_sem]) (by simp(disch:=omega)only[go_sem]) ⟨?_,rfl,rfl⟩
        exact hfin ((xm*2^kk:Nat):Int) (by rw[eM])
   ·have hfl:zq (bl m+e) same=0:=by unfold zq;rw[h3,if_pos rfl]
    have e5:=(rfl:(0:Nat)=0)
    simp(disch:=omega)only[go_sem,h3]
    refine qe (fun h5=>?_) (fun h5=>?_)
    ·have hr0:rm=0:=hxm0.1 h5
     simp(disch:=omega)only[go_sem,h5]
     refine qb (by simp(disch:=omega)only[go_sem]) (by simp(disch:=omega)only[go_sem]) ⟨?_,rfl,rfl⟩
     refine hVG 0 0 0 0 (by simp[flK,hr0]) (by simp[jR,hr0]) (by simp[jS,hr0]) (by simp[yh,hr0,hfl])
    ·have hr0:rm≠0:=fun e=>h5 (hxm0.2 e)
     have et2:=etop2 hr0
     have hxs:xs=s:=q3 hr0
     have hff:=hform hr0
     have hM:=Qp hr0 hff
     simp(disch:=omega)only[go_sem,h5]
     refine qc (zj xs xm xe (by omega) (by omega)) ?_ (by simp(disch:=omega)only[go_sem,et2])
     simp(disch:=omega)only[go_sem]
     simp(disch:=omega)only[go_sem,et2]
     refine qe (fun h6=>?_) (fun h6=>?_)
     ·have hov:∀(k mm ee:Int),k=(if ovB s mode then 1 else 2)→mm=(if ovB s mode then 9007199254740991 else 0)→ee=(if ovB s mode then 971 else 0)→AV.tu [.ag [.v (.int .i64 k),.v (.bool s),.v (.int .i64 mm),.v (.int .i64 ee)],.v (.int .i64 3)]=.tu [.ag [.v (.int .i64 ((flV s m e mode z).k)),.v (.bool ((flV s m e mode z).s)),.v (.int .i64 ((flV s m e mode z).m)),.v (.int .i64 ((flV s m e mode z).e))],.v (.int .i64 (flG s m e mode))]:=by
       rintro k mm ee rfl rfl rfl
       exact hVG _ _ _ 3 (by unfold flK;rw[if_neg hr0,if_pos h6]) (by unfold jR;rw[if_neg hr0,if_pos h6]) (by unfold jS;rw[if_neg hr0,if_pos h6]) (by unfold yh;rw[if_pos ⟨hr0,h6⟩])
      clear hVG hform hrm hrx q3 hxs et2 hfl
      obtain rfl|rfl|rfl|rfl|rfl:mode=0∨mode=1∨mode=2∨mode=3∨mode=4:=by omega
      ·cases s
       ·simp(disch:=omega)only[go_sem,h6]
        refine qb (by simp(disch:=omega)only[go_sem]) (by simp(disch:=omega)only[go_sem]) ⟨?_,rfl,rfl⟩
        exact hov _ _ _ rfl rfl rfl
       ·simp(disch:=omega)only[go_sem,h6]
        refine qb (by simp(disch:=omega)only[go_sem]) (by simp(disch:=omega)only[go_sem]) ⟨?_,rfl,rfl⟩
        exact hov _ _ _ rfl rfl rfl
      ·cases s
       ·simp(disch:=omega)only[go_sem,h6]
        refine qc (qG false) ?_
        simp(disch:=omega)only[go_sem]
        refine qb (by simp(disch:=omega)only[go_sem]) (by simp(disch:=omega)only[go_sem]) ⟨?_,rfl,rfl⟩
        exact hov _ _ _ rfl rfl rfl
       ·simp(disch:=omega)only[go_sem,h6]
        refine qc (qG true) ?_
        simp(disch:=omega)only[go_sem]
        refine qb (by simp(disch:=omega)only[go_sem]) (by simp(disch:=omega)only[go_sem]) ⟨?_,rfl,rfl⟩
        exact hov _ _ _ rfl rfl rfl
      ·cases s
       ·simp(disch:=omega)only[go_sem,h6]
        refine qb (by simp(disch:=omega)only[go_sem]) (by simp(disch:=omega)only[go_sem]) ⟨?_,rfl,rfl⟩
        exact hov _ _ _ rfl rfl rfl
       ·simp(disch:=omega)only[go_sem,h6]
        refine qc (qG true) ?_
        simp(disch:=omega)only[go_sem]
        refine qb (by simp(disch:=omega)only[go_sem]) (by simp(disch:=omega)only[go_sem]) ⟨?_,rfl,rfl⟩
        exact hov _ _ _ rfl rfl rfl
      ·cases s
       ·simp(disch:=omega)only[go_sem,h6]
        refine qc (qG false) ?_
        simp(disch:=omega)only[go_sem]
        refine qb (by simp(disch:=omega)only[go_sem]) (by simp(disch:=omega)only[go_sem]) ⟨?_,rfl,rfl⟩
        exact hov _ _ _ rfl rfl rfl
       ·simp(disch:=omega)only[go_sem,h6]
        refine qb (by simp(disch:=omega)only[go_sem]) (by simp(disch:=omega)only[go_sem]) ⟨?_,rfl,rfl⟩
        exact hov _ _ _ rfl rfl rfl
      ·cases s
       ·simp(disch:=omega)only[go_sem,h6]
        refine qb (by simp(disch:=omega)only[go_sem]) (by simp(disch:=omega)only[go_sem]) ⟨?_,rfl,rfl⟩
        exact hov _ _ _ rfl rfl rfl
       ·simp(disch:=omega)only[go_sem,h6]
        refine qb (by simp(disch:=omega)only[go_sem]) (by simp(disch:=omega)only[go_sem]) ⟨?_,rfl,rfl⟩
        exact hov _ _ _ rfl rfl rfl
     ·simp(disch:=omega)only[go_sem,h6]
      refine qc (zj xs xm xe (by omega) (by omega)) ?_ (by simp(disch:=omega)only[go_sem,et2])
      simp(disch:=omega)only[go_sem]
      simp(disch:=omega)only[go_sem,et2]
      have hfin:∀mm:Int,mm=(flM rm re:Int)→AV.tu [.ag [.v (.int .i64 1),.v (.bool xs),.v (.int .i64 mm),.v (.int .i64 (flE rm re))],.v (.int .i64 0)]=.tu [.ag [.v (.int .i64 ((flV s m e mode z).k)),.v (.bool ((flV s m e mode z).s)),.v (.int .i64 ((flV s m e mode z).m)),.v (.int .i64 ((flV s m e mode z).e))],.v (.int .i64 (flG s m e mode))]:=by
       rintro mm rfl
       rw[hxs]
       exact hVG 1 _ _ 0 (by unfold flK;rw[if_neg hr0,if_neg (by omega)]) (by unfold jR;rw[if_neg hr0,if_neg (by omega)]) (by unfold jS;rw[if_neg hr0,if_neg (by omega)]) (by unfold yh;rw[if_neg (by omega),hfl])
      have ek:xe-flE rm re=(((oE rm re-flE rm re).toNat:Nat):Int):=by omega
      have hk9:(oE rm re-flE rm re).toNat≤53:=by have h9:=hM;unfold flM at h9;rw[zn (fun e=>hr0 (qB.1 e))]at h9;omega
      have hM6:flM rm re<2^53:=Nat.lt_of_lt_of_le (jQ _) (Nat.pow_le_pow_right (by omega) hM)
      have eM:xm*2^(oE rm re-flE rm re).toNat=flM rm re:=by rw[q1];rfl
      generalize hkk:(oE rm re-flE rm re).toNat=kk at*
      refine qe (fun h7=>?_) (fun h7=>?_)
      ·have eE:flE rm re= -1074:=by unfold flE qU;rw[if_pos (by omega)]
       simp(disch:=omega)only[go_sem,h7]
       rw[eE]at ek hfin
       try rw[←et2]at hfin
       refine qn rfl [⟨0,[],[]⟩,⟨1,[],[]⟩,⟨2,[],[]⟩,⟨3,[2],[]⟩,⟨4,[2],[]⟩,⟨5,[2],[]⟩,⟨6,[2,5],[]⟩,⟨7,[2,5],[]⟩,⟨8,[2,5,7],[]⟩,⟨9,[2,5],[]⟩,⟨12,[2,5,7],[]⟩,⟨14,[2,5,7],[]⟩,⟨10,[2],[]⟩,⟨11,[2],[]⟩,⟨13,[],[]⟩,⟨15,[],[]⟩,⟨16,[],[]⟩] (by kernel_rfl) ?_
       simp(disch:=omega)only[go_sem]
       refine qE (q9 xm kk (by omega) (by omega)) (by simp(disch:=omega)only[go_sem,ek,et2]) ?_
       rintro r hs ⟨rfl,rfl,_⟩
       refine⟨by simp[qK],?_⟩
       simp(disch:=omega)only[go_sem]
       refine qc (zC (xm*2^kk) (by rw[eM];omega)) ?_
       simp(disch:=omega)only[go_sem]
       refine qb (by simp(disch:=omega)only[go_sem]) (by simp(disch:=omega)only[go_sem]) ⟨?_,rfl,rfl⟩
       exact hfin ((xm*2^kk:Nat):Int) (by rw[eM])
      ·have eE:flE rm re=(bl rm:Int)+re-53:=by unfold flE qU;rw[if_neg (by omega)]
       simp(disch:=omega)only[go_sem,h7]
       rw[eE]at ek hfin
       try rw[←et2]at hfin
       refine qn rfl [⟨0,[],[]⟩,⟨1,[],[]⟩,⟨2,[],[]⟩,⟨3,[2],[]⟩,⟨4,[2],[]⟩,⟨5,[2],[]⟩,⟨6,[2,5],[]⟩,⟨7,[2,5],[]⟩,⟨8,[2,5,7],[]⟩,⟨9,[2,5],[]⟩,⟨12,[2,5,7],[]⟩,⟨14,[2,5,7],[]⟩,⟨10,[2],[]⟩,⟨11,[2],[]⟩,⟨13,[],[]⟩,⟨15,[],[]⟩,⟨16,[],[]⟩] (by kernel_rfl) ?_
       simp(disch:=omega)only[go_sem]
       refine qE (q9 xm kk (by omega) (by omega)) (by simp(disch:=omega)only[go_sem,ek,et2]) ?_
       rintro r hs ⟨rfl,rfl,_⟩
       refine⟨by simp[qK],?_⟩
       simp(disch:=omega)only[go_sem]
       refine qc (zC (xm*2^kk) (by rw[eM];omega)) ?_
       simp(disch:=omega)only[go_sem]
       refine qb (by simp(disch:=omega)only[go_sem]) (by simp(disch:=omega)only[go_sem]) ⟨?_,rfl,rfl⟩
       exact hfin ((xm*2^kk:Nat):Int) (by rw[eM])
end Go.Ab
namespace Go.Ab
open Go Go.Proofs
theorem aiN(xs:List Int)(hl:xs.length≤2^40):Con Tryz.prog 212 true [.ag [.sl xs.length (qg xs)]] [] (isA (.v (.bool (Yj xs)))):=by
 refine Con.of_aw Tryz.func212 rfl Tryz.ntmps212 (by simp) (by simp) (by simp) (W.sound ?_)
 show @W Tryz.prog 44 ⟨_⟩ ⟨fun x σ=>@qV _ _ _ ⟨_⟩ _ ⟨_⟩ x σ⟩ _ _
 simp(disch:=omega)only[go_sem]
 refine qe (fun h1=>?_) (fun h1=>?_)
 ·simp(disch:=omega)only[go_sem,h1]
  refine qb (by simp(disch:=omega)only[go_sem]) (by simp(disch:=omega)only[go_sem]) ⟨?_,rfl,rfl⟩
  have:¬(xs.length≤100):=by omega
  simp[qW,Yj,this]
 ·simp(disch:=omega)only[go_sem,h1]
  refine qj (fun i:Nat=>[(1,.pt 30000000 0),(2,.v (.bool false)),(3,.v (.int .i64 i))]) (fun _=>[(30000000,.own 0 [.sl xs.length (qg xs)])]) (fun i=>i≤xs.length∧∀x∈xs.take i,0≤x∧x≤65535) (fun i=>xs.length-i) 0 ⟨by omega,by simp⟩
   (Le.lst [] _ _ rfl (by simp(disch:=omega)only[go_sem]) (by simp(disch:=omega)only[go_sem])) ?_
  rintro i ⟨hi,hx⟩
  simp(disch:=omega)only[go_sem]
  refine qe (fun h2=>?_) (fun h2=>?_)
  ·simp(disch:=omega)only[go_sem,h2]
   have hmem:xs.getD i 0∈xs:=by
    rw[List.getD_eq_getElem?_getD,List.getElem?_eq_getElem (by omega)];exact List.getElem_mem _
   have bad:¬(0≤xs.getD i 0∧xs.getD i 0≤65535)→Yj xs=false:=by
    intro hc
    unfold Yj
    have:xs.all (fun x=>decide (0≤x)&&decide (x≤65535))=false:=by
     rw[List.all_eq_false]
     refine⟨_,hmem,?_⟩
     simp only[Bool.and_eq_true,decide_eq_true_eq];exact hc
    rw[this];simp
   refine⟨by omega,by omega,?_⟩
   refine qY (fun h3=>?_) (fun h3=>?_)
   ·simp(disch:=omega)only[go_sem,h3]
    refine⟨by omega,by omega,?_⟩
    refine qe (fun h4=>?_) (fun h4=>?_)
    ·simp(disch:=omega)only[go_sem,h4]
     rw[bad (by omega)]
     exact qu
    ·simp(disch:=omega)only[go_sem,h4]
     refine qh (i+1) [] ⟨by omega,?_⟩ (by show xs.length-(i+1)<xs.length-i;omega) rfl (by simp(disch:=omega)only[go_sem];try omega) (by simp(disch:=omega)only[go_sem])
     intro x hxx
     rw[List.take_add_one]at hxx
     rcases List.mem_append.1 hxx with h|h
     ·exact hx x h
     ·rw[List.getElem?_eq_getElem (by omega)]at h
      simp at h
      rw[List.getD_eq_getElem?_getD,List.getElem?_eq_getElem (by omega)]at h3 h4
      simp at h3 h4
      subst h
      omega
   ·simp(disch:=omega)only[go_sem,h3]
    rw[bad (by omega)]
    exact qu
  ·have:i=xs.length:=by omega
   subst this
   rw[List.take_length]at hx
   have hall:xs.all (fun x=>decide (0≤x)&&decide (x≤65535))=true:=by
    rw[List.all_eq_true]
    intro x h;have:=hx x h;simp only[Bool.and_eq_true,decide_eq_true_eq];exact this
   have e1:decide (xs.length≤100)=true:=by simp;omega
   simp(disch:=omega)only[go_sem,h2]
   refine qY (fun h3=>?_) (fun h3=>?_)
   ·have en:((xs.length:Int)-1).toNat=xs.length-1:=by omega
    have hmem:xs.getD (xs.length-1) 0∈xs:=by
     rw[List.getD_eq_getElem?_getD,List.getElem?_eq_getElem (by omega)];exact List.getElem_mem _
    have hp:=hx _ hmem
    simp(disch:=omega)only[go_sem,h3,en]
    refine⟨by omega,by omega,?_⟩
    refine qb (by simp(disch:=omega)only[go_sem]) (by simp(disch:=omega)only[go_sem]) ⟨?_,rfl,rfl⟩
    have e2:decide (xs.length=0)=false:=by simp;intro h;subst h;simp at h3
    show AV.v (.bool _)=AV.v (.bool _)
    unfold Yj
    rw[e1,hall,e2,Bool.false_or,Bool.true_and,Bool.true_and]
    congr 2
    rw[decide_eq_decide]
    omega
   ·simp(disch:=omega)only[go_sem,h3]
    refine qb (by simp(disch:=omega)only[go_sem]) (by simp(disch:=omega)only[go_sem]) ⟨?_,rfl,rfl⟩
    have e2:decide (xs.length=0)=true:=by simp;exact List.length_eq_zero_iff.1 (by omega)
    show AV.v (.bool _)=AV.v (.bool _)
    unfold Yj
    rw[e1,hall,e2]
    simp
theorem QV(s:Bool)(xs:List Int)(hl:xs.length≤2^40):Con Tryz.prog 137 true [.ag [.v (.bool s),.sl xs.length (qg xs)]] [] (isA (.v (.bool (jC s xs)))):=by
 refine Con.of_aw Tryz.func137 rfl Tryz.ntmps137 (by simp) (by simp) (by simp) (W.sound ?_)
 show @W Tryz.prog 18 ⟨_⟩ ⟨fun x σ=>@qV _ _ _ ⟨_⟩ _ ⟨_⟩ x σ⟩ _ _
 simp(disch:=omega)only[go_sem]
 refine qc (aiN xs hl) ?_
 simp(disch:=omega)only[go_sem]
 refine zI (fun h1=>?_) (fun h1=>?_)
 ·simp(disch:=omega)only[go_sem,h1]
  cases s
  ·simp(disch:=omega)only[go_sem]
   refine qb (by simp(disch:=omega)only[go_sem]) (by simp(disch:=omega)only[go_sem]) ⟨?_,rfl,rfl⟩
   simp[qW,jC,h1]
  ·simp(disch:=omega)only[go_sem]
   refine qb (by simp(disch:=omega)only[go_sem]) (by simp(disch:=omega)only[go_sem]) ⟨?_,rfl,rfl⟩
   show AV.v (.bool _)=AV.v (.bool _)
   unfold jC
   rw[h1,Bool.true_and,Bool.true_and,←decide_not]
   congr 2
   rw[decide_eq_decide]
   omega
 ·simp(disch:=omega)only[go_sem,h1]
  refine qb (by simp(disch:=omega)only[go_sem]) (by simp(disch:=omega)only[go_sem]) ⟨?_,rfl,rfl⟩
  simp[qW,jC,h1]
theorem ji(s:Bool)(xs:List Int)(e:Int)(hl:xs.length≤2^40):Con Tryz.prog 59 true [.ag [.v (.bool s),.sl xs.length (qg xs),.v (.int .i64 e)]] [] (isA (.v (.bool (dyB s xs e)))):=by
 refine Con.of_aw Tryz.func59 rfl Tryz.ntmps59 (by simp) (by simp) (by simp) (W.sound ?_)
 show @W Tryz.prog 31 ⟨_⟩ ⟨fun x σ=>@qV _ _ _ ⟨_⟩ _ ⟨_⟩ x σ⟩ _ _
 simp(disch:=omega)only[go_sem]
 refine qc (QV s xs hl) ?_
 simp(disch:=omega)only[go_sem]
 refine zI (fun hw=>?_) (fun hw=>?_)
 ·have h1:=hw
  simp only[jC,Bool.and_eq_true]at h1
  obtain⟨hx,hll⟩:=Zc h1.1
  have hxs:xs=lim (vl xs).toNat:=hx
  generalize hm:(vl xs).toNat=m at*
  subst hx
  simp(disch:=omega)only[go_sem,hw]
  refine qY (fun h2=>?_) (fun h2=>?_)
  ·simp(disch:=omega)only[go_sem,h2]
   refine qe (fun h3=>?_) (fun h3=>?_)
   ·simp(disch:=omega)only[go_sem,h3]
    refine qb (by simp(disch:=omega)only[go_sem]) (by simp(disch:=omega)only[go_sem]) ⟨?_,rfl,rfl⟩
    have a2:¬e≤3000:=by omega
    simp[qW,dyB,a2]
   ·simp(disch:=omega)only[go_sem,h3]
    refine qe (fun h4=>?_) (fun h4=>?_)
    ·simp(disch:=omega)only[go_sem,h4]
     have h0:m=0:=qD.1 (List.length_eq_zero_iff.1 (by omega))
     refine qb (by simp(disch:=omega)only[go_sem]) (by simp(disch:=omega)only[go_sem]) ⟨?_,rfl,rfl⟩
     have a1: -3000≤e:=by omega
     have a2:e≤3000:=by omega
     have a3:(lim m).length=0:=by omega
     show AV.v (.bool _)=AV.v (.bool _)
     unfold dyB
     rw[hw,hm,decide_eq_true a1,decide_eq_true a2,decide_eq_true a3,h0]
     simp
    ·simp(disch:=omega)only[go_sem,h4]
     refine qc (Qt m 0 (by omega) (by omega) (by omega)) ?_
     simp(disch:=omega)only[go_sem]
     refine qb (by simp(disch:=omega)only[go_sem]) (by simp(disch:=omega)only[go_sem]) ⟨?_,rfl,rfl⟩
     have a1: -3000≤e:=by omega
     have a2:e≤3000:=by omega
     have a3:¬(lim m).length=0:=by omega
     show AV.v (.bool _)=AV.v (.bool _)
     unfold dyB
     rw[hw,hm,decide_eq_true a1,decide_eq_true a2,decide_eq_false a3]
     simp
     omega
  ·simp(disch:=omega)only[go_sem,h2]
   refine qb (by simp(disch:=omega)only[go_sem]) (by simp(disch:=omega)only[go_sem]) ⟨?_,rfl,rfl⟩
   have a1:¬ -3000≤e:=by omega
   simp[qW,dyB,a1]
 ·simp(disch:=omega)only[go_sem,hw]
  refine qb (by simp(disch:=omega)only[go_sem]) (by simp(disch:=omega)only[go_sem]) ⟨?_,rfl,rfl⟩
  simp[qW,dyB,hw]
end Go.Ab
namespace Go.Ab
open Go Go.Proofs
theorem ZQ(s:Bool)(m:Nat)(e:Int):dyB (oS s m) (lim (oM m)) (oE m e)=z8 m e:=by
 unfold dyB jC z8 jF
 rw[qS,Int.toNat_natCast]
 have hod:=JK m
 have hz:=aLR s m
 by_cases h:(lim (oM m)).length≤100
 ·rw[aJp _ h,decide_eq_true h,Bool.true_and,Bool.true_and]
  by_cases h0:oM m=0
  ·have hm:m=0:=qB.1 h0
   rw[hz h0,h0,hm]
   simp[oE,ql]
  ·have h1:oM m % 2=1:=hod.resolve_right h0
   have h2:decide ((lim (oM m)).length=0)=false:=by
    have:=QS h0
    exact decide_eq_false (by omega)
   rw[h2,decide_eq_true h1]
   simp
 ·rw[decide_eq_false h]
  have:Yj (lim (oM m))=false:=by unfold Yj;rw[decide_eq_false h,Bool.false_and]
  rw[this];simp
theorem QJ(s:Bool)(m:Nat)(e:Int)(hl:(lim (oM m)).length≤2^40):Con Tryz.prog 139 false [.ag [.v (.bool (oS s m)),.sl (lim (oM m)).length (qg (lim (oM m))),.v (.int .i64 (oE m e))]] [] (isA (if z8 m e=true then .tu [.ag [.v (.bool (oS s m)),.sl (lim (oM m)).length (qg (lim (oM m))),.v (.int .i64 (oE m e))],.v (.bool true)]else .tu [.ag [.v (.bool (false)),.sl (lim (0)).length (qg (lim (0))),.v (.int .i64 (0))],.v (.bool false)])):=by
 refine Con.frzA ?_
 have ck:=ji (oS s m) (lim (oM m)) (oE m e) hl
 rw[ZQ]at ck
 cases hd:z8 m e
 ·rw[hd]at ck
  rw[if_neg (by simp),ql]
  refine Con.of_w (rs:=[.cell 2 29,.tmp 3]) Tryz.func139 rfl Tryz.ntmps139 rfl ?_
  simp(disch:=omega)only[go_sem]
  refine qc (ck) ?_
  simp(disch:=omega)only[go_sem]
  exact qk
 ·rw[hd]at ck
  rw[if_pos rfl]
  refine Con.of_w (rs:=[.cell 2 29,.tmp 3]) Tryz.func139 rfl Tryz.ntmps139 rfl ?_
  simp(disch:=omega)only[go_sem]
  refine qc (ck) ?_
  simp(disch:=omega)only[go_sem]
  exact qk
theorem ai9(s1:Bool)(m1:Nat)(e1:Int)(s2:Bool)(m2:Nat)(e2:Int)(h1:dyB s1 (lim m1) e1=true)(h2:dyB s2 (lim m2) e2=true):
  Con Tryz.prog 71 false [.ag [.v (.bool (s1)),.sl (lim (m1)).length (qg (lim (m1))),.v (.int .i64 (e1))],.ag [.v (.bool (s2)),.sl (lim (m2)).length (qg (lim (m2))),.v (.int .i64 (e2))]] [] (isA (if z8 (adM s1 m1 e1 s2 m2 e2) (alE m1 e1 m2 e2)=true then .tu [.ag [.v (.bool (oS (adS s1 m1 e1 s2 m2 e2) (adM s1 m1 e1 s2 m2 e2))),.sl (lim (oM (adM s1 m1 e1 s2 m2 e2))).length (qg (lim (oM (adM s1 m1 e1 s2 m2 e2)))),.v (.int .i64 (oE (adM s1 m1 e1 s2 m2 e2) (alE m1 e1 m2 e2)))],.v (.bool true)]else .tu [.ag [.v (.bool (false)),.sl (lim (0)).length (qg (lim (0))),.v (.int .i64 (0))],.v (.bool false)])):=by
 refine Con.frzA ?_
 obtain⟨n1,q1,b1,c1,d1,_,f1⟩:=y4 h1
 obtain⟨n2,q2,b2,c2,d2,_,f2⟩:=y4 h2
 obtain rfl:=jM q1
 obtain rfl:=jM q2
 have hE:=QZ (m1:=m1) (m2:=m2) d1.1 d2.1
 have b1':=yR (e:=e1) (E:=alE m1 e1 m2 e2) (C:=6000) c1 (by omega)
 have b2':=yR (e:=e2) (E:=alE m1 e1 m2 e2) (C:=6000) c2 (by omega)
 have hM:bl (adM s1 m1 e1 s2 m2 e2)≤7601:=aaf b1' b2'
 have hl:=qt (Nat.le_trans (qQ (jK _)) hM)
 have cf:=QJ (adS s1 m1 e1 s2 m2 e2) (adM s1 m1 e1 s2 m2 e2) (alE m1 e1 m2 e2) (by omega)
 have ca:=apy s1 m1 e1 s2 m2 e2 (by omega) (by omega) (by omega) (by omega) f1 f2
 have k1:=ji s1 (lim m1) e1 (by omega)
 have k2:=ji s2 (lim m2) e2 (by omega)
 rw[h1]at k1
 rw[h2]at k2
 cases hd:z8 (adM s1 m1 e1 s2 m2 e2) (alE m1 e1 m2 e2)
 ·rw[hd,if_neg (by simp),ql]at cf
  rw[if_neg (by simp),ql]
  refine Con.of_w (rs:=[.cell 4 29,.tmp 5]) Tryz.func71 rfl Tryz.ntmps71 rfl ?_
  simp(disch:=omega)only[go_sem]
  refine qc (k1) ?_
  simp(disch:=omega)only[go_sem]
  refine qc (k2) ?_
  simp(disch:=omega)only[go_sem]
  refine qa (ca) ?_
  simp(disch:=omega)only[go_sem]
  refine qa (cf) ?_
  simp(disch:=omega)only[go_sem]
  exact qk
 ·rw[hd,if_pos rfl]at cf
  rw[if_pos rfl]
  refine Con.of_w (rs:=[.cell 4 29,.tmp 5]) Tryz.func71 rfl Tryz.ntmps71 rfl ?_
  simp(disch:=omega)only[go_sem]
  refine qc (k1) ?_
  simp(disch:=omega)only[go_sem]
  refine qc (k2) ?_
  simp(disch:=omega)only[go_sem]
  refine qa (ca) ?_
  simp(disch:=omega)only[go_sem]
  refine qa (cf) ?_
  simp(disch:=omega)only[go_sem]
  exact qk
def pmS(s1:Bool)(m1:Nat)(s2:Bool)(m2:Nat):Bool:=(s1 != s2)&&decide (m1*m2≠0)
theorem ai8(s1:Bool)(m1:Nat)(e1:Int)(s2:Bool)(m2:Nat)(e2:Int)(h1:dyB s1 (lim m1) e1=true)(h2:dyB s2 (lim m2) e2=true):
  Con Tryz.prog 60 false [.ag [.v (.bool (s1)),.sl (lim (m1)).length (qg (lim (m1))),.v (.int .i64 (e1))],.ag [.v (.bool (s2)),.sl (lim (m2)).length (qg (lim (m2))),.v (.int .i64 (e2))]] [] (isA (if z8 (m1*m2) (e1+e2)=true then .tu [.ag [.v (.bool (oS (pmS s1 m1 s2 m2) (m1*m2))),.sl (lim (oM (m1*m2))).length (qg (lim (oM (m1*m2)))),.v (.int .i64 (oE (m1*m2) (e1+e2)))],.v (.bool true)]else .tu [.ag [.v (.bool (false)),.sl (lim (0)).length (qg (lim (0))),.v (.int .i64 (0))],.v (.bool false)])):=by
 refine Con.frzA ?_
 obtain⟨n1,q1,b1,c1,d1,_,f1⟩:=y4 h1
 obtain⟨n2,q2,b2,c2,d2,_,f2⟩:=y4 h2
 obtain rfl:=jM q1
 obtain rfl:=jM q2
 have hM:=Nat.le_trans (zJ m1 m2) (Nat.add_le_add c1 c2)
 have hl:=qt (Nat.le_trans (qQ (jK _)) hM)
 have cf:=QJ (pmS s1 m1 s2 m2) (m1*m2) (e1+e2) (by omega)
 have ca:=yx s1 m1 e1 s2 m2 e2 (by omega) (by omega) (by omega) (by omega)
 have k1:=ji s1 (lim m1) e1 (by omega)
 have k2:=ji s2 (lim m2) e2 (by omega)
 rw[h1]at k1
 rw[h2]at k2
 unfold pmS at*
 cases hd:z8 (m1*m2) (e1+e2)
 ·rw[hd,if_neg (by simp),ql]at cf
  rw[if_neg (by simp),ql]
  refine Con.of_w (rs:=[.cell 4 29,.tmp 5]) Tryz.func60 rfl Tryz.ntmps60 rfl ?_
  simp(disch:=omega)only[go_sem]
  refine qc (k1) ?_
  simp(disch:=omega)only[go_sem]
  refine qc (k2) ?_
  simp(disch:=omega)only[go_sem]
  refine qa (ca) ?_
  simp(disch:=omega)only[go_sem]
  refine qa (cf) ?_
  simp(disch:=omega)only[go_sem]
  exact qk
 ·rw[hd,if_pos rfl]at cf
  rw[if_pos rfl]
  refine Con.of_w (rs:=[.cell 4 29,.tmp 5]) Tryz.func60 rfl Tryz.ntmps60 rfl ?_
  simp(disch:=omega)only[go_sem]
  refine qc (k1) ?_
  simp(disch:=omega)only[go_sem]
  refine qc (k2) ?_
  simp(disch:=omega)only[go_sem]
  refine qa (ca) ?_
  simp(disch:=omega)only[go_sem]
  refine qa (cf) ?_
  simp(disch:=omega)only[go_sem]
  exact qk
theorem aLW(s1:Bool)(m1:Nat)(e1:Int)(s2:Bool)(m2:Nat)(e2:Int)(ok:Bool)(h1:dyB s1 (lim m1) e1=true)(h2:dyB s2 (lim m2) e2=true):
  Con Tryz.prog 16 false [.ag [.v (.bool (s1)),.sl (lim (m1)).length (qg (lim (m1))),.v (.int .i64 (e1))],.ag [.v (.bool (s2)),.sl (lim (m2)).length (qg (lim (m2))),.v (.int .i64 (e2))],.v (.bool ok)] [] (isA (if z8 (adM s1 m1 e1 s2 m2 e2) (alE m1 e1 m2 e2)=true then .tu [.ag [.v (.bool (oS (adS s1 m1 e1 s2 m2 e2) (adM s1 m1 e1 s2 m2 e2))),.sl (lim (oM (adM s1 m1 e1 s2 m2 e2))).length (qg (lim (oM (adM s1 m1 e1 s2 m2 e2)))),.v (.int .i64 (oE (adM s1 m1 e1 s2 m2 e2) (alE m1 e1 m2 e2)))],.v (.bool ok)]else .tu [.ag [.v (.bool (false)),.sl (lim (0)).length (qg (lim (0))),.v (.int .i64 (0))],.v (.bool false)])):=by
 refine Con.frzA ?_
 have cf:=ai9 s1 m1 e1 s2 m2 e2 h1 h2
 cases hd:z8 (adM s1 m1 e1 s2 m2 e2) (alE m1 e1 m2 e2)
 ·rw[hd,if_neg (by simp),ql]at cf
  rw[if_neg (by simp),ql]
  cases ok
  ·refine Con.of_w (rs:=[.cell 6 29,.tmp 7]) Tryz.func16 rfl Tryz.ntmps16 rfl ?_
   simp(disch:=omega)only[go_sem]
   refine qa (cf) ?_
   simp(disch:=omega)only[go_sem]
   exact qk
  ·refine Con.of_w (rs:=[.cell 6 29,.tmp 7]) Tryz.func16 rfl Tryz.ntmps16 rfl ?_
   simp(disch:=omega)only[go_sem]
   refine qa (cf) ?_
   simp(disch:=omega)only[go_sem]
   exact qk
 ·rw[hd,if_pos rfl]at cf
  rw[if_pos rfl]
  cases ok
  ·refine Con.of_w (rs:=[.cell 6 29,.tmp 7]) Tryz.func16 rfl Tryz.ntmps16 rfl ?_
   simp(disch:=omega)only[go_sem]
   refine qa (cf) ?_
   simp(disch:=omega)only[go_sem]
   exact qk
  ·refine Con.of_w (rs:=[.cell 6 29,.tmp 7]) Tryz.func16 rfl Tryz.ntmps16 rfl ?_
   simp(disch:=omega)only[go_sem]
   refine qa (cf) ?_
   simp(disch:=omega)only[go_sem]
   exact qk
theorem aiQ(s1:Bool)(m1:Nat)(e1:Int)(s2:Bool)(m2:Nat)(e2:Int)(ok:Bool)(h1:dyB s1 (lim m1) e1=true)(h2:dyB s2 (lim m2) e2=true):
  Con Tryz.prog 15 false [.ag [.v (.bool (s1)),.sl (lim (m1)).length (qg (lim (m1))),.v (.int .i64 (e1))],.ag [.v (.bool (s2)),.sl (lim (m2)).length (qg (lim (m2))),.v (.int .i64 (e2))],.v (.bool ok)] [] (isA (if z8 (m1*m2) (e1+e2)=true then .tu [.ag [.v (.bool (oS (pmS s1 m1 s2 m2) (m1*m2))),.sl (lim (oM (m1*m2))).length (qg (lim (oM (m1*m2)))),.v (.int .i64 (oE (m1*m2) (e1+e2)))],.v (.bool ok)]else .tu [.ag [.v (.bool (false)),.sl (lim (0)).length (qg (lim (0))),.v (.int .i64 (0))],.v (.bool false)])):=by
 refine Con.frzA ?_
 have cf:=ai8 s1 m1 e1 s2 m2 e2 h1 h2
 cases hd:z8 (m1*m2) (e1+e2)
 ·rw[hd,if_neg (by simp),ql]at cf
  rw[if_neg (by simp),ql]
  cases ok
  ·refine Con.of_w (rs:=[.cell 6 29,.tmp 7]) Tryz.func15 rfl Tryz.ntmps15 rfl ?_
   simp(disch:=omega)only[go_sem]
   refine qa (cf) ?_
   simp(disch:=omega)only[go_sem]
   exact qk
  ·refine Con.of_w (rs:=[.cell 6 29,.tmp 7]) Tryz.func15 rfl Tryz.ntmps15 rfl ?_
   simp(disch:=omega)only[go_sem]
   refine qa (cf) ?_
   simp(disch:=omega)only[go_sem]
   exact qk
 ·rw[hd,if_pos rfl]at cf
  rw[if_pos rfl]
  cases ok
  ·refine Con.of_w (rs:=[.cell 6 29,.tmp 7]) Tryz.func15 rfl Tryz.ntmps15 rfl ?_
   simp(disch:=omega)only[go_sem]
   refine qa (cf) ?_
   simp(disch:=omega)only[go_sem]
   exact qk
  ·refine Con.of_w (rs:=[.cell 6 29,.tmp 7]) Tryz.func15 rfl Tryz.ntmps15 rfl ?_
   simp(disch:=omega)only[go_sem]
   refine qa (cf) ?_
   simp(disch:=omega)only[go_sem]
   exact qk
end Go.Ab
namespace Go.Ab
open Go Go.Proofs
theorem apB(s1:Bool)(m1:Nat)(s2:Bool)(m2:Nat)(l1:(lim m1).length≤2^40)(l2:(lim m2).length≤2^40)(z1:m1=0→s1=false)(z2:m2=0→s2=false):
  Con Tryz.prog 158 true [.ag [.v (.bool (s1)),.sl (lim (m1)).length (qg (lim (m1)))],.ag [.v (.bool (s2)),.sl (lim (m2)).length (qg (lim (m2)))]] [] (isA (.v (.int .i64 (zw (sv s1 m1) (sv s2 m2))))):=by
 rw[aaa z1 z2]
 cases s1<;>cases s2
 ·refine Con.of_w (rs:=[.tmp 4]) Tryz.func158 rfl Tryz.ntmps158 rfl ?_
  simp(disch:=omega)only[go_sem]
  refine qc (Z2 m1 m2 l1 l2) ?_
  simp(disch:=omega)only[go_sem]
  exact qu
 ·refine Con.of_w (rs:=[.tmp 4]) Tryz.func158 rfl Tryz.ntmps158 rfl ?_
  simp(disch:=omega)only[go_sem]
  exact qu
 ·refine Con.of_w (rs:=[.tmp 4]) Tryz.func158 rfl Tryz.ntmps158 rfl ?_
  simp(disch:=omega)only[go_sem]
  exact qu
 ·refine Con.of_w (rs:=[.tmp 4]) Tryz.func158 rfl Tryz.ntmps158 rfl ?_
  simp(disch:=omega)only[go_sem]
  refine qc (Z2 m2 m1 l2 l1) ?_
  simp(disch:=omega)only[go_sem]
  exact qu
theorem apx(K:Nat)(s1:Bool)(m1:Nat)(e1:Int)(s2:Bool)(m2:Nat)(e2:Int)(h1:bl m1≤4000000)(h2:bl m2≤4000000)(he1: -1000000≤e1∧e1≤1000000)(he2: -1000000≤e2∧e2≤1000000)(k1: -(K:Int)≤e1)(k2: -(K:Int)≤e2)(z1:m1=0→s1=false)(z2:m2=0→s2=false):
  Con Tryz.prog 74 true [.ag [.v (.bool (s1)),.sl (lim (m1)).length (qg (lim (m1))),.v (.int .i64 (e1))],.ag [.v (.bool (s2)),.sl (lim (m2)).length (qg (lim (m2))),.v (.int .i64 (e2))]] [] (isA (.v (.int .i64 (zw (dv K s1 m1 e1) (dv K s2 m2 e2))))):=by
 have hE:=QZ (m1:=m1) (m2:=m2) he1.1 he2.1
 have b1:=qt (yR (e:=e1) (E:=alE m1 e1 m2 e2) (C:=2000000) h1 (by omega))
 have b2:=qt (yR (e:=e2) (E:=alE m1 e1 m2 e2) (C:=2000000) h2 (by omega))
 rw[←apZ k1 k2]
 have y1:alA m1 e1 (alE m1 e1 m2 e2)=0→s1=false:=fun h=>z1 (Qv.1 h)
 have y2:alA m2 e2 (alE m1 e1 m2 e2)=0→s2=false:=fun h=>z2 (Qv.1 h)
 refine Con.of_w (rs:=[.tmp 4]) Tryz.func74 rfl Tryz.ntmps74 rfl ?_
 simp(disch:=omega)only[go_sem]
 refine qa (ZZ s1 m1 e1 s2 m2 e2 h1 h2 he1 he2 z1 z2) ?_
 simp(disch:=omega)only[go_sem]
 refine qc (apB s1 (alA m1 e1 (alE m1 e1 m2 e2)) s2 (alA m2 e2 (alE m1 e1 m2 e2)) (by omega) (by omega) y1 y2) ?_
 simp(disch:=omega)only[go_sem]
 exact qu
theorem JV(s1:Bool)(m1:Nat)(e1:Int)(s2:Bool)(m2:Nat)(e2:Int)(h1:dyB s1 (lim m1) e1=true)(h2:dyB s2 (lim m2) e2=true):
  Con Tryz.prog 18 true [.ag [.v (.bool (s1)),.sl (lim (m1)).length (qg (lim (m1))),.v (.int .i64 (e1))],.ag [.v (.bool (s2)),.sl (lim (m2)).length (qg (lim (m2))),.v (.int .i64 (e2))]] [] (isA (.v (.int .i64 (zw (dv 3000 s1 m1 e1) (dv 3000 s2 m2 e2))))):=by
 obtain⟨n1,q1,b1,c1,d1,_,f1⟩:=y4 h1
 obtain⟨n2,q2,b2,c2,d2,_,f2⟩:=y4 h2
 obtain rfl:=jM q1
 obtain rfl:=jM q2
 have k1:=ji s1 (lim m1) e1 (by omega)
 have k2:=ji s2 (lim m2) e2 (by omega)
 rw[h1]at k1
 rw[h2]at k2
 refine Con.of_w (rs:=[.tmp 4]) Tryz.func18 rfl Tryz.ntmps18 rfl ?_
 simp(disch:=omega)only[go_sem]
 refine qc (k1) ?_
 simp(disch:=omega)only[go_sem]
 refine qc (k2) ?_
 simp(disch:=omega)only[go_sem]
 refine qc (apx 3000 s1 m1 e1 s2 m2 e2 (by omega) (by omega) (by omega) (by omega) (by omega) (by omega) f1 f2) ?_
 simp(disch:=omega)only[go_sem]
 exact qu
theorem aLX(s:Bool)(m:Nat)(e:Int)(h:dyB s (lim m) e=true):Con Tryz.prog 121 false [.ag [.v (.bool (s)),.sl (lim (m)).length (qg (lim (m))),.v (.int .i64 (e))]] [] (isA (.ag [.v (.bool ((!s)&&decide (m≠0))),.sl (lim (m)).length (qg (lim (m))),.v (.int .i64 (e))])):=by
 refine Con.frzA ?_
 obtain⟨n1,q1,b1,c1,d1,_,f1⟩:=y4 h
 obtain rfl:=jM q1
 have k1:=ji s (lim m) e (by omega)
 rw[h]at k1
 refine Con.of_w (rs:=[.cell 2 29]) Tryz.func121 rfl Tryz.ntmps121 rfl ?_
 simp(disch:=omega)only[go_sem]
 refine qc (k1) ?_
 simp(disch:=omega)only[go_sem]
 refine qa (apw s m e (by omega)) ?_
 simp(disch:=omega)only[go_sem]
 exact qk
theorem K8(n:Int)(h: -9223372036854775808≤n∧n<9223372036854775808):Con Tryz.prog 73 false [.v (.int .i64 n)] [] (isA (.ag [.v (.bool (decide (n<0))),.sl (lim (n.natAbs)).length (qg (lim (n.natAbs)))])):=by
 refine Con.frzA ?_
 refine Con.of_w (rs:=[.cell 2 27]) Tryz.func73 rfl Tryz.ntmps73 rfl ?_
 simp(disch:=omega)only[go_sem]
 refine qa (aeo n h) ?_
 simp(disch:=omega)only[go_sem]
 exact qk
theorem aKS(e:Int):Con Tryz.prog 155 true [.v (.int .i64 e)] [] (isA (.v (.bool (decide (-12000≤e)&&decide (e≤12000))))):=by
 refine Con.of_aw Tryz.func155 rfl Tryz.ntmps155 (by simp) (by simp) (by simp) (W.sound ?_)
 show @W Tryz.prog 9 ⟨_⟩ ⟨fun x σ=>@qV _ _ _ ⟨_⟩ _ ⟨_⟩ x σ⟩ _ _
 simp(disch:=omega)only[go_sem]
 repeat' first
  |simp(disch:=omega)only[go_sem, *]
  |(with_reducible refine qe (fun _=>?_) (fun _=>?_))
  |(with_reducible refine qY (fun _=>?_) (fun _=>?_))
  |(with_reducible refine z6 (fun _=>?_) (fun _=>?_))
  |(with_reducible refine zI (fun _=>?_) (fun _=>?_))
 all_goals exact qb (by simp(disch:=omega)only[go_sem]) (by simp(disch:=omega)only[go_sem]) ⟨by simp_all[qW]<;>omega,rfl,rfl⟩
theorem apW(s:Bool)(m:Nat)(e:Int)(h:jC s (lim m)=true)(he: -12000≤e∧e≤12000):
  Con Tryz.prog 72 false [.ag [.v (.bool (s)),.sl (lim (m)).length (qg (lim (m)))],.v (.int .i64 e)] [] (isA (if z8 m e=true then .tu [.ag [.v (.bool (oS s m)),.sl (lim (oM m)).length (qg (lim (oM m))),.v (.int .i64 (oE m e))],.v (.bool true)]else .tu [.ag [.v (.bool (false)),.sl (lim (0)).length (qg (lim (0))),.v (.int .i64 (0))],.v (.bool false)])):=by
 refine Con.frzA ?_
 have h':=h
 simp only[jC,Bool.and_eq_true]at h'
 obtain⟨_,hl⟩:=Zc h'.1
 have hb:=JX (m:=m)
 have hb2:=qt (Nat.le_trans (qQ (jK m)) hb)
 have k1:=QV s (lim m) (by omega)
 rw[h]at k1
 have k2:=aKS e
 rw[decide_eq_true he.1,decide_eq_true he.2]at k2
 have cf:=QJ s m e (by omega)
 cases hd:z8 m e
 ·rw[hd,if_neg (by simp),ql]at cf
  rw[if_neg (by simp),ql]
  refine Con.of_w (rs:=[.cell 4 29,.tmp 5]) Tryz.func72 rfl Tryz.ntmps72 rfl ?_
  simp(disch:=omega)only[go_sem]
  refine qc (k1) ?_
  simp(disch:=omega)only[go_sem]
  refine qc (k2) ?_
  simp(disch:=omega)only[go_sem]
  refine qa (zU s m e (by omega) (by omega)) ?_
  simp(disch:=omega)only[go_sem]
  refine qa (cf) ?_
  simp(disch:=omega)only[go_sem]
  exact qk
 ·rw[hd,if_pos rfl]at cf
  rw[if_pos rfl]
  refine Con.of_w (rs:=[.cell 4 29,.tmp 5]) Tryz.func72 rfl Tryz.ntmps72 rfl ?_
  simp(disch:=omega)only[go_sem]
  refine qc (k1) ?_
  simp(disch:=omega)only[go_sem]
  refine qc (k2) ?_
  simp(disch:=omega)only[go_sem]
  refine qa (zU s m e (by omega) (by omega)) ?_
  simp(disch:=omega)only[go_sem]
  refine qa (cf) ?_
  simp(disch:=omega)only[go_sem]
  exact qk
theorem aal:tz 1=0:=QO rfl
theorem yY:lim 1=[1]:=by rw[yb (by omega)];simp[ql]
/-! ### Sameness-/
theorem adq(a b:Nat)(la:(lim a).length≤2^40)(lb:(lim b).length≤2^40):Con Tryz.prog 146 true [.ag [.sl (lim (a)).length (qg (lim (a)))],.ag [.sl (lim (b)).length (qg (lim (b)))]] [] (isA (.v (.bool (decide (a=b))))):=by
 refine Con.of_w (rs:=[.tmp 4]) Tryz.func146 rfl Tryz.ntmps146 rfl ?_
 simp(disch:=omega)only[go_sem]
 refine qY (fun h1=>?_) (fun h1=>?_)
 ·simp(disch:=omega)only[go_sem,h1]
  rw[decide_eq_false (fun e=>h1 (by rw[e]))]
  exact qu
 ·have hl:(lim a).length=(lim b).length:=by omega
  simp(disch:=omega)only[go_sem,h1]
  refine qj (fun i:Nat=>[(2,.pt 40000000 0),(3,.pt 50000000 0),(5,.v (.int .i64 i))]) (fun _=>[(40000000,.own 0 [.sl (lim (a)).length (qg (lim (a)))]),(50000000,.own 0 [.sl (lim (b)).length (qg (lim (b)))])])
   (fun i=>i≤(lim a).length∧(lim a).take i=(lim b).take i) (fun i=>(lim a).length-i) 0 ⟨by omega,by simp⟩ (Le.lst [] _ _ rfl (by simp(disch:=omega)only[go_sem];try omega) (by simp(disch:=omega)only[go_sem])) ?_
  rintro i ⟨hi,ht⟩
  simp(disch:=omega)only[go_sem]
  refine qe (fun h2=>?_) (fun h2=>?_)
  ·simp(disch:=omega)only[go_sem,h2]
   refine qn rfl [⟨0,[],[]⟩,⟨1,[],[]⟩,⟨2,[1],[]⟩,⟨3,[],[]⟩,⟨4,[],[]⟩,⟨5,[1,4],[]⟩,⟨6,[1,4],[]⟩,⟨7,[1,4,6],[]⟩,⟨8,[1,4],[]⟩,⟨9,[1,4],[]⟩,⟨10,[],[]⟩] (by kernel_rfl) ?_
   simp(disch:=omega)only[go_sem]
   refine⟨by omega,by omega,by omega,by omega,?_⟩
   refine qY (fun h3=>?_) (fun h3=>?_)
   ·simp(disch:=omega)only[go_sem,h3]
    rw[decide_eq_false (fun e=>h3 (by rw[e]))]
    exact qu
   ·simp(disch:=omega)only[go_sem,h3]
    refine qh (i+1) [] ⟨by omega,?_⟩ (by show(lim a).length-(i+1)<(lim a).length-i;omega) rfl (by simp(disch:=omega)only[go_sem];try omega) (by simp(disch:=omega)only[go_sem])
    rw[jT (l:=lim a) (by omega),jT (l:=lim b) (by omega),ht,h3]
  ·simp(disch:=omega)only[go_sem,h2]
   have:i=(lim a).length:=by omega
   subst this
   have ht2:lim a=lim b:=by
    have h4:=List.take_of_length_le (l:=lim b) (i:=(lim a).length) (by omega)
    rw[List.take_length,h4]at ht
    exact ht
   rw[decide_eq_true (jM ht2)]
   exact qu
theorem YH(s1:Bool)(m1:Nat)(s2:Bool)(m2:Nat)(l1:(lim m1).length≤2^40)(l2:(lim m2).length≤2^40):Con Tryz.prog 69 true [.ag [.v (.bool (s1)),.sl (lim (m1)).length (qg (lim (m1)))],.ag [.v (.bool (s2)),.sl (lim (m2)).length (qg (lim (m2)))]] [] (isA (.v (.bool ((s1==s2)&&decide (m1=m2))))):=by
 refine Con.of_w (rs:=[.tmp 4]) Tryz.func69 rfl Tryz.ntmps69 rfl ?_
 cases hs:(s1==s2)
 ·simp(disch:=omega)only[go_sem,hs]
  exact qu
 ·simp(disch:=omega)only[go_sem,hs]
  refine qc (adq m1 m2 l1 l2) ?_
  simp(disch:=omega)only[go_sem]
  exact qu
theorem aiK(s1:Bool)(m1:Nat)(e1:Int)(s2:Bool)(m2:Nat)(e2:Int)(l1:(lim m1).length≤2^40)(l2:(lim m2).length≤2^40):Con Tryz.prog 13 true [.ag [.v (.bool (s1)),.sl (lim (m1)).length (qg (lim (m1))),.v (.int .i64 (e1))],.ag [.v (.bool (s2)),.sl (lim (m2)).length (qg (lim (m2))),.v (.int .i64 (e2))]] [] (isA (.v (.bool (decide (e1=e2)&&((s1==s2)&&decide (m1=m2)))))):=by
 cases he:decide (e1=e2)
 ·have he':¬e1=e2:=by simpa using he
  refine Con.of_w (rs:=[.tmp 4]) Tryz.func13 rfl Tryz.ntmps13 rfl ?_
  simp(disch:=omega)only[go_sem,he']
  exact qu
 ·refine Con.of_w (rs:=[.tmp 4]) Tryz.func13 rfl Tryz.ntmps13 rfl ?_
  simp(disch:=omega)only[go_sem,he]
  refine qc (YH s1 m1 s2 m2 l1 l2) ?_
  simp(disch:=omega)only[go_sem]
  exact qu
end Go.Ab
namespace Go.Ab
open Go Go.Proofs
theorem K3(e:Int)(he: -3000≤e∧e≤3000):Con Tryz.prog 17 false [.v (.int .i64 1),.v (.int .i64 e)] [] (isA (.ag [.v (.bool (false)),.sl (lim (1)).length (qg (lim (1))),.v (.int .i64 (e))])):=by
 refine Con.frzA ?_
 have hm:oM 1=1:=by unfold oM;rw[aal]
 have hE:oE 1 e=e:=by unfold oE;rw[aal,if_neg (by decide)];simp
 have hf:z8 1 e=true:=by
  unfold z8 jF;rw[hm,hE,yY]
  simp only[Bool.and_eq_true,decide_eq_true_eq]
  exact⟨by decide,by omega,by omega⟩
 have c1:=apW false 1 e (by rw[yY];decide) (by omega)
 rw[if_pos hf,hm,hE]at c1
 have c0:=K8 1 (by omega)
 have e1:decide ((1:Int)<0)=false:=rfl
 have e2:(1:Int).natAbs=1:=rfl
 rw[e1,e2]at c0
 refine Con.of_aw Tryz.func17 rfl Tryz.ntmps17 (by simp) (by simp) (by simp) (W.sound ?_)
 show @W Tryz.prog 15 ⟨_⟩ ⟨fun x σ=>@qV _ _ _ ⟨_⟩ _ ⟨_⟩ x σ⟩ _ _
 simp(disch:=omega)only[go_sem]
 refine qa (c0) ?_
 simp(disch:=omega)only[go_sem]
 refine qa (c1) ?_
 simp(disch:=omega)only[go_sem]
 refine qF (by simp(disch:=omega)only[go_sem]) ?_
 show qM _ 6 _=_
 rfl
theorem aEj:tz 1024=10:=j4 (a:=0) (by decide)
theorem aSn:(ExV.can ⟨false,1024, -10⟩)=⟨false,1,0⟩:=by
 show(⟨oS false 1024,oM 1024,oE 1024 (-10)⟩:ExV)=_
 unfold oS oM oE
 rw[aEj];rfl
theorem ap5:(ExV.can ⟨false,1, -14⟩)=⟨false,1, -14⟩:=by
 show(⟨oS false 1,oM 1,oE 1 (-14)⟩:ExV)=_
 unfold oS oM oE
 rw[aal];rfl
theorem Yz(x:ExV)(a:Nat)(s:Bool)(e:Int)(h:x.can=⟨s,a,e⟩)(h1:(lim a).length≤100)(h2: -3000≤e∧e≤3000):x.fit=true:=by
 have e1:oM x.m=a:=congrArg ExV.m h
 have e2:oE x.m x.e=e:=congrArg ExV.e h
 unfold ExV.fit z8 jF
 rw[e1,e2]
 simp only[Bool.and_eq_true,decide_eq_true_eq]
 exact⟨h1,h2⟩
theorem adF(n:Nat)(h1:n=1):Con Tryz.prog 70 false [.ag [.v (.int .i64 (n)),.sl ([ex0]).length (qA ExV.cs ([ex0]))],.v (.int .i64 (-10))] [] (isA (.tu [.ag [.v (.int .i64 (n)),.sl ([ex1]).length (qA ExV.cs ([ex1]))],.ag [.v (.bool (false)),.sl (lim (1)).length (qg (lim (1))),.v (.int .i64 (-14))],.v (.bool true)])):=by
 have c:=adE n [ex0] (-10) aDS (by omega) (by rw[h1];rfl) (by omega) (KZ n h1) (apK n h1) (by rw[h1];decide+kernel) (by decide+kernel) (by
  rw[show aDS=[⟨⟨false,16383, -14⟩,⟨false,16385, -14⟩⟩] by decide+kernel,List.all_cons,List.all_nil]
  have t1:tz 16383=0:=QO rfl
  have t2:tz 16385=0:=QO rfl
  have f1:ExV.fit ⟨false,16383, -14⟩=true:=Yz _ 16383 false (-14) (by show(⟨oS false 16383,oM 16383,oE 16383 (-14)⟩:ExV)=_;unfold oS oM oE;rw[t1];rfl) (by have:=qt (m:=16383) (B:=20) (zl.2 (by decide));omega) (by omega)
  have f2:ExV.fit ⟨false,16385, -14⟩=true:=Yz _ 16385 false (-14) (by show(⟨oS false 16385,oM 16385,oE 16385 (-14)⟩:ExV)=_;unfold oS oM oE;rw[t2];rfl) (by have:=qt (m:=16385) (B:=20) (zl.2 (by decide));omega) (by omega)
  unfold SpV.fit
  rw[f1,f2];rfl)
 have eX:aef n aDS (-10)=[⟨false,1024, -10⟩]:=by rw[h1];decide+kernel
 have eF:jX n aDS (-10)=⟨false,1, -14⟩:=by rw[h1];decide+kernel
 rw[eX,eF]at c
 have f1:ExV.fit ⟨false,1024, -10⟩=true:=Yz _ 1 false 0 aSn (by rw[yY];decide) (by omega)
 have f2:ExV.fit ⟨false,1, -14⟩=true:=Yz _ 1 false (-14) ap5 (by rw[yY];decide) (by omega)
 rw[List.all_cons,List.all_nil,f1,f2,if_pos (by rfl),List.map_cons,List.map_nil,aSn,ap5]at c
 exact c
set_option maxRecDepth 100000 in
theorem jj:Con Tryz.prog 14 true [] [] (isA (.v (.bool true))):=by
 obtain⟨n,hn⟩:∃n:Nat,n=1:=⟨1,rfl⟩
 have c:=adF n hn
 have en:(n:Int)=1:=by omega
 have hrow:qA ExV.cs [ex0]=[.v (.bool false),.sl 0 [],.v (.int .i64 0)]:=by
  simp[qA,ExV.cs,ex0,ql,qg]
 rw[en,hrow]at c
 have hr1:qA ExV.cs [ex1]=[.v (.bool false),.sl (lim 1).length (qg (lim 1)),.v (.int .i64 0)]:=by
  simp[qA,ExV.cs,ex1]
 rw[hr1]at c
 have cd1:=K3 0 (by omega)
 have cd2:=K3 (-9) (by omega)
 have csd:=aiK false 1 0 false 1 0 (by rw[yY];decide) (by rw[yY];decide)
 rw[show(decide ((0:Int)=0)&&((false==false)&&decide ((1:Nat)=1)))=true from rfl]at csd
 have hb:∀e:Int, -3000≤e∧e≤3000→dyB false (lim 1) e=true:=fun e he=>by
  rw[yY];unfold dyB
  rw[show jC false [1]=true by decide,decide_eq_true he.1,decide_eq_true he.2];rfl
 have ccm:=JV false 1 (-14) false 1 (-9) (hb _ (by omega)) (hb _ (by omega))
 have hle:zw (dv 3000 false 1 (-14)) (dv 3000 false 1 (-9))≤0:=(Jb _ _).1.2 (by
  unfold dv sv
  rw[if_neg (by simp),show(-9+((3000:Nat):Int)).toNat=(-14+((3000:Nat):Int)).toNat+5 by rfl,Int.pow_add]
  have:(0:Int)<2^(-14+((3000:Nat):Int)).toNat:=Int.pow_pos (by omega)
  generalize (2:Int)^(-14+((3000:Nat):Int)).toNat=p at*
  omega)
 have q3:decide (zw (dv 3000 false 1 (-14)) (dv 3000 false 1 (-9))≤0)=true:=decide_eq_true hle
 generalize zw (dv 3000 false 1 (-14)) (dv 3000 false 1 (-9))=C at*
 refine Con.of_aw Tryz.func14 rfl Tryz.ntmps14 (by simp) (by simp) (by simp)
  (AW.seqLe (E:=[(0,.v (.bool false))]) (H:=[]) (W.sound ?_) (AW.regSplit (E:=[(0,.v (.bool false)),(7,.ag [.v (.int .i64 1),.sl 1 [.v (.bool false),.sl 0 [],.v (.int .i64 0)]])]) (H:=[]) 3 (by simp only[List.take_succ_cons,List.take_zero];rfl) (by simp only[List.drop_succ_cons,List.drop_zero];rfl) ?_ ?_))
 ·show @W Tryz.prog 38 ⟨_⟩ ⟨_⟩ _ _
  simp(disch:=omega)only[go_sem]
  exact Le.lst [] _ _ rfl (by simp(disch:=omega)only[go_sem]) (by simp(disch:=omega)only[go_sem])
 ·simp(disch:=omega)only[go_sem]
  exact(Le.nilC 80000000 1 (zo:=3) (cs:=[.v (.bool false),.v (.slice none 0 0),.v (.int .i64 0)]) (by simp(disch:=omega)only[go_sem]) rfl).trans ((Le.frz 80000000 (z:=3) (ks:=[.v (.bool false),.sl 0 [],.v (.int .i64 0)]) (by simp(disch:=omega)only[go_sem,List.set_cons_succ,List.set_cons_zero]) rfl (by simp(disch:=omega)only[go_sem])).trans (Le.lst [] _ _ rfl (by simp(disch:=omega)only[go_sem]) (by simp(disch:=omega)only[go_sem])))
 show @Ch Tryz.prog 38 ⟨_⟩ ⟨_⟩ ⟨fun σ=>@W Tryz.prog 38 ⟨_⟩ ⟨fun x σ=>@qV _ _ _ ⟨_⟩ _ ⟨_⟩ x σ⟩ σ.env σ.hp⟩ _ _
 simp(disch:=omega)only[go_sem]
 refine qa (c) ?_
 simp(disch:=omega)only[go_sem]
 refine qn rfl [⟨0,[],[]⟩,⟨1,[],[]⟩,⟨2,[],[]⟩,⟨3,[],[]⟩,⟨4,[],[]⟩,⟨5,[],[]⟩,⟨6,[],[]⟩,⟨7,[],[]⟩,⟨8,[],[]⟩,⟨9,[],[]⟩,⟨10,[],[]⟩,⟨11,[],[]⟩,⟨12,[],[]⟩,⟨13,[],[]⟩,⟨14,[],[]⟩,⟨15,[],[]⟩,⟨16,[],[]⟩,⟨17,[14,16],[]⟩,⟨18,[],[]⟩,⟨19,[],[]⟩,⟨20,[],[]⟩,⟨21,[],[]⟩,⟨22,[21],[]⟩,⟨23,[],[]⟩,⟨24,[],[]⟩,⟨25,[],[]⟩,⟨26,[],[]⟩] (by kernel_rfl) ?_
 simp(disch:=omega)only[go_sem]
 refine qa (cd1) ?_
 simp(disch:=omega)only[go_sem]
 refine qc (csd) ?_
 simp(disch:=omega)only[go_sem]
 refine qa (cd2) ?_
 simp(disch:=omega)only[go_sem]
 refine qc (ccm) ?_
 simp(disch:=omega)only[go_sem]
 simp(disch:=omega)only[go_sem,q3]
 exact qu
end Go.Ab
namespace Go.Ab
theorem aKC{s:Bool}{rm:Nat}{re:Int}(h0:rm≠0)(ht:(bl rm:Int)+re≤1024)(he:flE rm re≤oE rm re)(hr: -1074≤re):
  flB 1 s (flM rm re:Int) (flE rm re)=true∧dv 1074 s (flM rm re) (flE rm re)=dv 1074 s rm re:=by
 have h1:oM rm≠0:=fun e=>h0 (qB.1 e)
 have h2:=Jx h0
 have hoE:oE rm re=re+tz rm:=by unfold oE;rw[if_neg h0]
 have hbl:bl (flM rm re)=bl (oM rm)+(oE rm re-flE rm re).toNat:=by unfold flM;rw[zn h1]
 have hM0:flM rm re≠0:=by
  unfold flM
  exact Nat.mul_ne_zero h1 (Nat.pos_iff_ne_zero.1 (Nat.pow_pos (by omega)))
 have hE:flE rm re=if-1074>(bl rm:Int)+re-53 then-1074 else(bl rm:Int)+re-53:=rfl
 have hlt:=jQ (flM rm re)
 have hge:=aqf hM0
 refine⟨?_,?_⟩
 ·have hlt2:flM rm re<2^53:=Nat.lt_of_lt_of_le hlt (Nat.pow_le_pow_right (by omega) (by split at hE<;>omega))
  by_cases c: -1074>(bl rm:Int)+re-53
  ·rw[if_pos c]at hE
   unfold flB
   rw[if_pos rfl,hE]
   simp only[Bool.and_eq_true,Bool.or_eq_true,decide_eq_true_eq,and_true]
   omega
  ·rw[if_neg c]at hE
   have hb53:bl (flM rm re)=53:=by omega
   rw[hb53]at hge
   unfold flB
   rw[if_pos rfl,hE]
   simp only[Bool.and_eq_true,Bool.or_eq_true,decide_eq_true_eq]
   omega
 ·have hE1: -1074≤flE rm re:=by rw[hE];split<;>omega
  rw[←adi (s:=s) (m:=rm) (e:=re) (K:=1074) (by omega)]
  unfold dv flM
  rw[anB]
  have e1:(oE rm re+((1074:Nat):Int)).toNat=(oE rm re-flE rm re).toNat+(flE rm re+((1074:Nat):Int)).toNat:=by omega
  rw[e1,Int.pow_add,Int.natCast_pow,Int.mul_assoc];rfl
theorem aBC(s:Bool):flB 0 s 0 0=true:=by unfold flB;simp
end Go.Ab
namespace Go.Ab
open Go Go.Proofs
def ExV.val(K:Nat)(x:ExV):Int:=dv K x.s x.m x.e
theorem aSo{x:ExV}(h:x.fit=true):x.can.ok=true:=by
 show dyB (oS x.s x.m) (lim (oM x.m)) (oE x.m x.e)=true
 rw[ZQ];exact h
theorem aRZ:ex0.ok=true:=by show dyB false (lim 0) 0=true;rw[ql];decide
theorem aK1{K:Nat}{x:ExV}(h: -(K:Int)≤x.e):x.can.val K=x.val K:=by
 show dv K (oS x.s x.m) (oM x.m) (oE x.m x.e)=_
 rw[adi h,aR6];rfl
theorem ajy{K K':Nat}{x y:ExV}(h1: -(K:Int)≤x.e)(h2: -(K':Int)≤y.e):(x.times y).val (K+K')=x.val K*y.val K':=by
 show dv (K+K') ((x.s != y.s)&&decide (x.m*y.m≠0)) (x.m*y.m) (x.e+y.e)=_
 rw[aR8];exact aR7 h1 h2
theorem aCB{K j:Nat}{x:ExV}(h: -(K:Int)≤x.e):x.val (K+j)=x.val K*2^j:=by
 unfold ExV.val dv
 have:(x.e+((K+j:Nat):Int)).toNat=(x.e+(K:Int)).toNat+j:=by omega
 rw[this,Int.pow_add,Int.mul_assoc]
def ExV.tel(x:ExV):ExV:=if x.fit=true then x.can else ex0
theorem adY(x:ExV):x.tel.ok=true:=by
 unfold ExV.tel;split
 ·rename_i h;exact aSo h
 ·exact aRZ
theorem aHO{x:ExV}(h:x.fit=true):x.tel=x.can:=if_pos h
theorem K9(F:FlV):Con Tryz.prog 41 false [.ag [.v (.int .i64 (F.k)),.v (.bool (F.s)),.v (.int .i64 (F.m)),.v (.int .i64 (F.e))]] []
  (isA (if(flB F.k F.s F.m F.e&&(decide (F.k=0)||decide (F.k=1)))=true then .tu [.ag [.v (.bool (oS (F.s&&decide (F.k=1)) F.m.toNat)),.sl (lim (oM F.m.toNat)).length (qg (lim (oM F.m.toNat))),.v (.int .i64 (oE F.m.toNat F.e))],.v (.bool true)]else .tu [.ag [.v (.bool (false)),.sl (lim (0)).length (qg (lim (0))),.v (.int .i64 (0))],.v (.bool false)])):=aB7 F.k F.s F.m F.e
theorem aem(x y:ExV)(ok:Bool)(hx:x.ok=true)(hy:y.ok=true):Con Tryz.prog 15 false [.ag [.v (.bool (x).s),.sl (lim (x).m).length (qg (lim (x).m)),.v (.int .i64 (x).e)],.ag [.v (.bool (y).s),.sl (lim (y).m).length (qg (lim (y).m)),.v (.int .i64 (y).e)],.v (.bool ok)] [] (isA (.tu [.ag [.v (.bool ((x.times y).tel).s),.sl (lim ((x.times y).tel).m).length (qg (lim ((x.times y).tel).m)),.v (.int .i64 ((x.times y).tel).e)],.v (.bool ((x.times y).fit&&ok))])):=by
 have c:=aiQ x.s x.m x.e y.s y.m y.e ok hx hy
 have e:z8 (x.m*y.m) (x.e+y.e)=(x.times y).fit:=rfl
 rw[e]at c
 unfold ExV.tel
 cases h:(x.times y).fit
 ·rw[h,if_neg (by simp)]at c
  rw[if_neg (by simp)];exact c
 ·rw[h,if_pos rfl]at c
  rw[if_pos rfl];exact c
theorem Z7(x y:ExV)(hx:x.ok=true)(hy:y.ok=true):Con Tryz.prog 18 true [.ag [.v (.bool (x).s),.sl (lim (x).m).length (qg (lim (x).m)),.v (.int .i64 (x).e)],.ag [.v (.bool (y).s),.sl (lim (y).m).length (qg (lim (y).m)),.v (.int .i64 (y).e)]] [] (isA (.v (.int .i64 (zw (x.val 3000) (y.val 3000))))):=JV x.s x.m x.e y.s y.m y.e hx hy
/-! ### Floats that are numbers-/
def flD(F:FlV):ExV:=⟨oS (xS F.k F.s) F.m.toNat,oM F.m.toNat,oE F.m.toNat F.e⟩
theorem KN{F:FlV}(h:flB F.k F.s F.m F.e=true):(flD F).ok=true:=by
 obtain⟨a1,a2,_⟩:=zS h
 show dyB (oS (xS F.k F.s) F.m.toNat) (lim (oM F.m.toNat)) (oE F.m.toNat F.e)=true
 rw[ZQ]
 exact aei (by omega) (by omega)
theorem aiA{F:FlV}(h:flB F.k F.s F.m F.e=true): -1074≤(flD F).e∧(flD F).e≤1024:=by
 obtain⟨a1,a2,_⟩:=zS h
 have:=Qg (m:=F.m.toNat) (e:=F.e) (lo:= -1074) (hi:=971) (B:=53) (zl.2 (by omega)) (by omega) (by omega) (by omega)
 exact⟨this.1,by have:=this.2;show oE _ _≤_;omega⟩
theorem Yy{F:FlV}(h:flB F.k F.s F.m F.e=true):(flD F).val 1074=dv 1074 (xS F.k F.s) F.m.toNat F.e:=by
 obtain⟨a1,a2,_⟩:=zS h
 show dv 1074 (oS _ _) (oM _) (oE _ _)=_
 rw[adi (by omega),aR6]
theorem adz(F:FlV)(h:flB F.k F.s F.m F.e=true)(hk:(decide (F.k=0)||decide (F.k=1))=true):Con Tryz.prog 41 false [.ag [.v (.int .i64 (F.k)),.v (.bool (F.s)),.v (.int .i64 (F.m)),.v (.int .i64 (F.e))]] [] (isA (.tu [.ag [.v (.bool (flD F).s),.sl (lim (flD F).m).length (qg (lim (flD F).m)),.v (.int .i64 (flD F).e)],.v (.bool true)])):=by
 have c:=K9 F
 rw[h,hk,if_pos (by rfl)]at c
 exact c
theorem apM(F:FlV)(h:(flB F.k F.s F.m F.e&&(decide (F.k=0)||decide (F.k=1)))=false):Con Tryz.prog 41 false [.ag [.v (.int .i64 (F.k)),.v (.bool (F.s)),.v (.int .i64 (F.m)),.v (.int .i64 (F.e))]] [] (isA (.tu [.ag [.v (.bool (ex0).s),.sl (lim (ex0).m).length (qg (lim (ex0).m)),.v (.int .i64 (ex0).e)],.v (.bool false)])):=by
 have c:=K9 F
 rw[h,if_neg (by simp)]at c
 exact c
end Go.Ab
namespace Go.Ab
open Go Go.Proofs
/-! ### Rounding down and up-/
def rnF(s:Bool)(a b:Nat)(low mode:Int):FlV:=⟨flK s mode (rq s a b mode) low,s,jR s mode (rq s a b mode) low,jS s mode (rq s a b mode) low⟩
def upQ(a b:Nat):Nat:=if a % b=0 then a/b else a/b+1
def isN(F:FlV):Bool:=decide (F.k=0)||decide (F.k=1)
theorem anV(s:Bool)(a b:Nat):rq s a b 3=if s=true then upQ a b else a/b:=by
 unfold rq upQ rup
 by_cases h:a % b=0
 ·simp[h]
 ·cases s<;>simp[h]
theorem aM0(s:Bool)(a b:Nat):rq s a b 2=if s=true then a/b else upQ a b:=by
 unfold rq upQ rup
 by_cases h:a % b=0
 ·simp[h]
 ·cases s<;>simp[h]
theorem aIe(s:Bool)(a b:Nat)(mode:Int):rq s a b mode=a/b∨rq s a b mode=upQ a b:=by
 unfold rq upQ
 by_cases h:a % b=0
 ·simp[h]
 ·rw[if_neg h,if_neg h];split
  ·exact .inr rfl
  ·exact .inl rfl
theorem aX4{s:Bool}{a b:Nat}{mode:Int}(h:ovB s mode=true):rq s a b mode=a/b:=by
 unfold ovB at h
 unfold rq
 by_cases h0:a % b=0
 ·rw[if_pos h0]
 ·rw[if_neg h0]
  have:rup s (decide (a/b % 2=1)) (zw ((a % b*2:Nat):Int) (b:Int)) mode=false:=by
   unfold rup
   rcases(by simpa using h:mode=1∨(mode=2∧s=true)∨(mode=3∧s=false))with h|⟨h,h'⟩|⟨h,h'⟩
   ·rw[if_neg (by omega),if_neg (by omega),if_neg (by omega),if_neg (by omega)]
   ·rw[if_pos h,h'];rfl
   ·rw[if_neg (by omega),if_pos h,h']
  rw[this];rfl
theorem aN5(a b:Nat):a/b≤upQ a b:=by unfold upQ;split<;>omega
def rqB(s:Bool)(a b:Nat)(low mode:Int):Prop:=rq s a b mode≠0∧1024<(bl (rq s a b mode):Int)+low
theorem anY{s:Bool}{a b:Nat}{low mode:Int}(hl: -1074≤low)(hf:rq s a b mode≠0→flE (rq s a b mode) low≤oE (rq s a b mode) low)(ht:¬rqB s a b low mode):
  flB (rnF s a b low mode).k (rnF s a b low mode).s (rnF s a b low mode).m (rnF s a b low mode).e=true∧isN (rnF s a b low mode)=true∧dv 1074 (xS (rnF s a b low mode).k (rnF s a b low mode).s) (rnF s a b low mode).m.toNat (rnF s a b low mode).e=dv 1074 s (rq s a b mode) low:=by
 unfold rnF
 unfold rqB at ht
 generalize rq s a b mode=q at*
 by_cases h0:q=0
 ·subst h0
  have e1:flK s mode 0 low=0:=by unfold flK;simp
  have e2:jR s mode 0 low=0:=by unfold jR;simp
  have e3:jS s mode 0 low=0:=by unfold jS;simp
  dsimp only
  rw[e1,e2,e3]
  exact⟨aBC s,rfl,by rw[QD];exact QD⟩
 ·have nt:¬1024<(bl q:Int)+low:=fun h=>ht ⟨h0,h⟩
  have e1:flK s mode q low=1:=by unfold flK;rw[if_neg h0,if_neg nt]
  have e2:jR s mode q low=(flM q low:Int):=by unfold jR;rw[if_neg h0,if_neg nt]
  have e3:jS s mode q low=flE q low:=by unfold jS;rw[if_neg h0,if_neg nt]
  dsimp only
  rw[e1,e2,e3]
  obtain⟨f1,f2⟩:=aKC (s:=s) h0 (by omega) (hf h0) hl
  refine⟨f1,rfl,?_⟩
  rw[Int.toNat_natCast,←f2]
  unfold xS;simp
theorem JE{s:Bool}{a b:Nat}{low mode:Int}(ht:rqB s a b low mode):
  rnF s a b low mode=if ovB s mode=true then⟨1,s,9007199254740991,971⟩else⟨2,s,0,0⟩:=by
 obtain⟨h1,h2⟩:=ht
 simp only[rnF,flK,jR,jS,if_neg h1,if_pos h2]
 cases ovB s mode<;>rfl
theorem aX6{s:Bool}{a b:Nat}{low mode:Int}(hl: -1074≤low)(hf:rq s a b mode≠0→flE (rq s a b mode) low≤oE (rq s a b mode) low):
  flB (rnF s a b low mode).k (rnF s a b low mode).s (rnF s a b low mode).m (rnF s a b low mode).e=true:=by
 by_cases h:rqB s a b low mode
 ·rw[JE h]
  cases ovB s mode<;>cases s<;>decide
 ·exact(anY hl hf h).1
theorem aAc{s:Bool}{a b:Nat}{low m m':Int}(h:rq s a b m=rq s a b m')(ht:¬rqB s a b low m):rnF s a b low m=rnF s a b low m':=by
 unfold rqB at ht
 unfold rnF
 rw[←h]
 generalize rq s a b m=q at*
 unfold flK jR jS
 by_cases h0:q=0
 ·simp only[if_pos h0]
 ·have nt:¬1024<(bl q:Int)+low:=fun h=>ht ⟨h0,h⟩
  simp only[if_neg h0,if_neg nt]
theorem ad5{s:Bool}{a b:Nat}{low m m':Int}(h:rq s a b m≤rq s a b m')(hb:rqB s a b low m):rqB s a b low m':=by
 have:=qQ h
 unfold rqB at*;omega
theorem aX5(s:Bool)(a b:Nat)(low mode:Int):rnF s a b low mode=rnF s a b low 3∨rnF s a b low mode=rnF s a b low 2:=by
 have hd:=anV s a b
 have hu:=aM0 s a b
 have hle:=aN5 a b
 by_cases hb:rqB s a b low mode
 ·rw[JE hb]
  cases ho:ovB s mode
  ·cases s
   ·right
    have:rq false a b mode≤rq false a b 2:=by rw[hu];rcases aIe false a b mode with h|h<;>rw[h]<;>simp<;>omega
    rw[JE (ad5 this hb)];rfl
   ·left
    have:rq true a b mode≤rq true a b 3:=by rw[hd];rcases aIe true a b mode with h|h<;>rw[h]<;>simp<;>omega
    rw[JE (ad5 this hb)];rfl
  ·have hq:=aX4 (a:=a) (b:=b) ho
   cases s
   ·left
    rw[JE (ad5 (by rw[hq,hd];simp) hb)];rfl
   ·right
    rw[JE (ad5 (by rw[hq,hu];simp) hb)];rfl
 ·rcases aIe s a b mode with h|h<;>cases s
  ·exact .inl (aAc (by rw[h,hd];simp) hb)
  ·exact .inr (aAc (by rw[h,hu];simp) hb)
  ·exact .inr (aAc (by rw[h,hu];simp) hb)
  ·exact .inl (aAc (by rw[h,hd];simp) hb)
theorem aBB{s:Bool}{a b:Nat}{low mode top:Int}(ex:Bool)(h:yh top ex (rq s a b mode) low=0):¬rqB s a b low mode∧ex=true:=by
 unfold yh zq at h
 unfold rqB
 split at h
 ·omega
 ·rename_i hn
  refine⟨hn,?_⟩
  cases ex
  ·rw[if_neg (by simp)]at h;split at h<;>omega
  ·rfl
end Go.Ab
namespace Go.Ab
def stk(A B:Nat):Nat:=2*(A/B)+(if A % B=0 then 0 else 1)
end Go.Ab
namespace Go.Ab
open Go Go.Proofs
def quK(N D:Nat):Int:=58-((bl N:Int)-(bl D:Int))
def quA(N D:Nat):Nat:=N*2^(quK N D).toNat
def quB(N D:Nat):Nat:=D*2^(-quK N D).toNat
def quQ(N D:Nat):Nat:=stk (quA N D) (quB N D)
def quT(N D:Nat):Int:=if quB N D*2^58≤quA N D then(bl N:Int)-(bl D:Int)+1 else(bl N:Int)-(bl D:Int)
end Go.Ab
namespace Go.Ab
open Go Go.Proofs
end Go.Ab
namespace Go.Ab
open Go Go.Proofs
def dvV(k1:Int)(s1:Bool)(m1 e1 k2:Int)(s2:Bool)(m2 e2 mode:Int):FlV:=
 if k1=3∨k2=3∨(k1=k2∧k1≠1)then⟨3,false,0,0⟩else if k1=2 then⟨2,s1 != s2,0,0⟩else if k2=2∨k1=0 then⟨0,s1 != s2,0,0⟩else if k2=0 then⟨2,s1 != s2,0,0⟩
  else flV (s1 != s2) (quQ m1.toNat m2.toNat) (-quK m1.toNat m2.toNat-1+(e1-e2)) mode false
def dvG(k1:Int)(s1:Bool)(m1 e1 k2:Int)(s2:Bool)(m2 e2 mode:Int):Int:=
 if k1=3∨k2=3 then 0 else if k1=k2∧k1≠1 then 16 else if k1=2∨k2=2∨k1=0 then 0 else if k2=0 then 8
  else flG (s1 != s2) (quQ m1.toNat m2.toNat) (-quK m1.toNat m2.toNat-1+(e1-e2)) mode
end Go.Ab
namespace Go.Ab
open Go Go.Proofs
/-! ### A quotient,rounded down and up-/
section
variable {V U:FlV}(h1:flB V.k V.s V.m V.e=true)(h2:flB U.k U.s U.m U.e=true)(k1:V.k=0∨V.k=1)(k2:U.k=1)
include h1 h2 k1 k2
end
end Go.Ab
