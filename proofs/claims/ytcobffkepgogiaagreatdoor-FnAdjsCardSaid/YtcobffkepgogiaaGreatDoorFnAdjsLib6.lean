/- What the proof of this claim stands on: the walks of the functions and the plain laws, part 6. -/
import Derived.Test.YtcobffkepgogiaaGreatDoorFnAdjsLib5
import Derived.Test.YtcobffkepgogiaaGreatDoorRows
import Derived.Test.YtcobffkepgogiaaGreatDoorCards
import Derived.Test.YtcobffkepgogiaaGreatDoorTie
import Derived.Handed
import Derived.ChangeSame
import Derived.JoinedOf
import Derived.RowKit
import Derived.WalkKit
import Derived.ProofKit
import Derived.OpenShut
import Derived.LaidLaws
import Derived.LaidHandle
import Derived.SevenTiedAt
import Derived.Stop.LaidErr
import Derived.Lib.LaidTab
set_option linter.unusedVariables false
set_option linter.unusedSimpArgs false
namespace Go.Ab
open Go Go.Proofs
theorem Ja(k:Int)(M:List DyV)(h1:M.length≤16)(h2:∀d∈M,d.xs.length≤200):Con Tryz.prog 38 true [.ag [.v (.int .i64 k),.sl M.length (qn DyV.cs M)]] [] (isA (.v (.bool (Yl k M)))):=by
 unfold Yl
 refine Con.of_w (rs:=[.tmp 2]) Tryz.func38 rfl Tryz.ntmps38 rfl ?_
 simp(disch:=omega)only[go_sem]
 by_cases c1:k<1
 ·rw[decide_eq_false (show ¬1≤k by omega),Bool.false_and,Bool.false_and]
  simp(disch:=omega)only[go_sem,c1]
  exact qx
 by_cases c2:4<k
 ·rw[decide_eq_false (show ¬k≤4 by omega),Bool.and_false,Bool.false_and]
  simp(disch:=omega)only[go_sem,c1,c2]
  exact qx
 rw[decide_eq_true (show 1≤k by omega),decide_eq_true (show k≤4 by omega),Bool.true_and,Bool.true_and]
 have hq:0≤k*k∧k*k≤16:=⟨Int.mul_nonneg (by omega) (by omega),Int.mul_le_mul (show k≤4 by omega) (show k≤4 by omega) (by omega) (by omega)⟩
 by_cases c3:(M.length:Int)=k*k
 rotate_left
 ·rw[decide_eq_false c3,Bool.false_and]
  simp(disch:=omega)only[go_sem,c1,c2,decide_eq_false c3]
  exact qx
 rw[decide_eq_true c3,Bool.true_and]
 simp(disch:=omega)only[go_sem,c1,c2,decide_eq_true c3]
 refine qh (fun i:Nat=>[(1,.pt 1 0),(2,.v (.bool false)),(3,.v (.int .i64 i))]) (fun _=>[(1,.own 0 [.v (.int .i64 k),.sl M.length (qn DyV.cs M)])]) (fun i=>i≤M.length∧∀j,j<i→(M.getD j dy0).ok=true) (fun i=>M.length-i) 0 ⟨by omega,fun j hj=>by omega⟩
  (Le.lst [(1,30000000)] _ _ rfl (by simp(disch:=omega)only[go_sem]) (by simp(disch:=omega)only[go_sem])) ?_
 rintro i ⟨hi,hp⟩
 simp(disch:=omega)only[go_sem]
 refine qe (fun h3=>?_) (fun h3=>?_)
 ·have hcut:=Zz (l:=M) QU (i:=i) (by omega) dy0
  have hmem:M.getD i dy0∈M:=by
   rw[List.getD_eq_getElem?_getD,List.getElem?_eq_getElem (by omega)];exact List.getElem_mem _
  have hx:=h2 _ hmem
  have cd:=zR (M.getD i dy0).s (M.getD i dy0).xs (M.getD i dy0).e (by omega)
  rw[show dyB (M.getD i dy0).s (M.getD i dy0).xs (M.getD i dy0).e=(M.getD i dy0).ok from rfl]at cd
  have hall:(M.getD i dy0).ok=false→M.all DyV.ok=false:=fun h=>List.all_eq_false.2 ⟨_,hmem,by rw[h];simp⟩
  have hnext:(M.getD i dy0).ok=true→∀j,j<i+1→(M.getD j dy0).ok=true:=fun h j hj=>by
   rcases(by omega:j<i∨j=i)with h'|rfl
   ·exact hp j h'
   ·exact h
  generalize M.getD i dy0=d at*
  simp(disch:=omega)only[go_sem,h3,hcut,DyV.cs]
  refine⟨by omega,by omega,qk cd ?_⟩
  simp(disch:=omega)only[go_sem]
  cases hd:d.ok
  ·rw[hall hd]
   simp(disch:=omega)only[go_sem,hd]
   exact qx
  ·simp(disch:=omega)only[go_sem,hd]
   exact qb (i+1) [] ⟨by omega,hnext hd⟩ (by show M.length-(i+1)<M.length-i;omega) rfl (by simp(disch:=omega)only[go_sem];try omega) (by simp(disch:=omega)only[go_sem])
 ·simp(disch:=omega)only[go_sem,h3]
  have hall:M.all DyV.ok=true:=List.all_eq_true.2 fun d hd=>by
   obtain⟨j,hj,rfl⟩:=List.getElem_of_mem hd
   have:=hp j (by omega)
   rw[List.getD_eq_getElem?_getD,List.getElem?_eq_getElem hj]at this
   exact this
  rw[hall]
  exact qx
theorem Yu{n:Nat}:(gId n).length=n*n:=zx
theorem yk{n:Nat}(h1:1≤n)(h4:n≤4):(gId n).all ExV.fit=true∧(gId n).map ExV.can=gId n:=by
 rcases(show n=1∨n=2∨n=3∨n=4 by omega)with rfl|rfl|rfl|rfl<;>decide+kernel
theorem apx{n:Nat}(h1:1≤n)(h4:n≤4):matV n (gId n):=by
 have:=(KZ (l:=gId n) h1 h4 Yu (yk h1 h4).1).2.2
 rw[(yk h1 h4).2]at this
 exact this
theorem ajS(n:Nat)(h1:1≤n)(h4:n≤4):Con Tryz.prog 18 false [.v (.int .i64 n)] [] (isA (.tu [.ag [.v (.int .i64 (n)),.sl (gId n).length (qn ExV.cs (gId n))],.v (.bool true)])):=by
 refine Con.frzA ?_
 have hl:(gId n).length=n*n:=Yu
 have cw:=zm n 1 4
 rw[decide_eq_true (show(1:Int)≤n by omega),decide_eq_true (show(n:Int)≤4 by omega)]at cw
 have cm:=yC n (gId n) (by have:=jQ h4;omega) (apx h1 h4).bd4
 obtain⟨e1,e2, -⟩:=KZ (l:=gId n) h1 h4 Yu (yk h1 h4).1
 rw[e1,e2,(yk h1 h4).1,(yk h1 h4).2]at cm
 have ci:=aqF n h4
 generalize gId n=y at*
 refine Con.of_w (rs:=[.cell 2 25,.tmp 3]) Tryz.func18 rfl Tryz.ntmps18 rfl ?_
 simp(disch:=omega)only[go_sem]
 refine qk (cw) ?_
 simp(disch:=omega)only[go_sem]
 refine qa (ci) ?_
 simp(disch:=omega)only[go_sem]
 refine qa (cm) ?_
 simp(disch:=omega)only[go_sem]
 exact qi
theorem adV(n:Nat)(L L':List ExV)(h:matV n L)(h':matV n L'):Con Tryz.prog 21 true [.ag [.v (.int .i64 (n)),.sl (L).length (qn ExV.cs (L))],.ag [.v (.int .i64 (n)),.sl (L').length (qn ExV.cs (L'))]] [] (isA (.v (.bool (decide (L=L'))))):=by
 have hll:L'.length=L.length:=by rw[h.len,h'.len]
 have h16:=h.l16
 refine Con.of_w (rs:=[.tmp 4]) Tryz.func21 rfl Tryz.ntmps21 rfl ?_
 simp(disch:=omega)only[go_sem]
 simp(disch:=omega)only[go_sem,hll]
 refine qh (fun i:Nat=>[(2,.pt 1 0),(3,.pt 2 0),(5,.v (.int .i64 i))]) (fun _=>[(1,.own 0 [.v (.int .i64 n),.sl L.length (qn ExV.cs L)]),(2,.own 0 [.v (.int .i64 n),.sl L.length (qn ExV.cs L')])]) (fun i=>i≤L.length∧∀j,j<i→L.getD j ex0=L'.getD j ex0) (fun i=>L.length-i) 0 ⟨by omega,fun j hj=>by omega⟩
  (Le.lst [(1,40000000),(2,50000000)] _ _ rfl (by simp(disch:=omega)only[go_sem]) (by simp(disch:=omega)only[go_sem])) ?_
 rintro i ⟨hi,hp⟩
 simp(disch:=omega)only[go_sem]
 refine qe (fun h1=>?_) (fun h1=>?_)
 ·have hc1:=zO (l:=L) (i:=i) (by omega)
  have hc2:=zO (l:=L') (i:=i) (by omega)
  have o1:=h.ok (L.getD i ex0) (by rw[List.getD_eq_getElem?_getD,List.getElem?_eq_getElem (by omega)];exact List.getElem_mem _)
  have o2:=h'.ok (L'.getD i ex0) (by rw[List.getD_eq_getElem?_getD,List.getElem?_eq_getElem (by omega)];exact List.getElem_mem _)
  have cs:=ZZ _ _ o1 o2
  have hne:L.getD i ex0≠L'.getD i ex0→decide (L=L')=false:=fun hn=>decide_eq_false fun e=>hn (by rw[e])
  have hnx:L.getD i ex0=L'.getD i ex0→∀j,j<i+1→L.getD j ex0=L'.getD j ex0:=fun e j hj=>by
   rcases(by omega:j<i∨j=i)with h'|rfl
   ·exact hp j h'
   ·exact e
  generalize L.getD i ex0=x at*
  generalize L'.getD i ex0=y at*
  simp(disch:=omega)only[go_sem,h1]
  refine qq rfl [⟨0,[],[]⟩,⟨1,[],[]⟩,⟨2,[1],[]⟩,⟨3,[],[]⟩,⟨4,[],[]⟩,⟨5,[1,4],[]⟩,⟨6,[1,4],[]⟩,⟨7,[1,4,6],[]⟩,⟨8,[1,4],[]⟩,⟨9,[1,4],[]⟩,⟨10,[],[]⟩,⟨11,[],[]⟩] (by kernel_rfl) ?_
  simp(disch:=omega)only[go_sem,hc1,hc2]
  refine⟨by omega,by omega,by omega,by omega,qk cs ?_⟩
  simp(disch:=omega)only[go_sem]
  by_cases hxy:x=y
  ·simp(disch:=omega)only[go_sem,decide_eq_true hxy]
   exact qb (i+1) [] ⟨by omega,hnx hxy⟩ (by show L.length-(i+1)<L.length-i;omega) rfl (by simp(disch:=omega)only[go_sem];try omega) (by simp(disch:=omega)only[go_sem])
  ·rw[hne hxy]
   simp(disch:=omega)only[go_sem,decide_eq_false hxy]
   exact qx
 ·have he:L=L':=by
   apply List.ext_getElem hll.symm
   intro j h1 h2
   have:=hp j (by omega)
   rw[List.getD_eq_getElem?_getD,List.getElem?_eq_getElem h1,List.getD_eq_getElem?_getD,List.getElem?_eq_getElem h2]at this
   exact this
  rw[decide_eq_true he]
  simp(disch:=omega)only[go_sem,h1]
  exact qx
theorem aKv{K n:Nat}{X Y:List ExV}(hK:3000≤K)(hX:matV n X)(hY:matV n Y)(h:∀i j,i<n→j<n→mv K X n i j=mv K Y n i j):X=Y:=by
 apply List.ext_getElem (by rw[hX.len,hY.len])
 intro t h1 h2
 have hn:0<n:=hX.n1
 have ht:t<n*n:=by rw[←hX.len];exact h1
 have hj:=Nat.mod_lt t hn
 have hi:t/n<n:=(Nat.div_lt_iff_lt_mul hn).2 ht
 have e:t/n*n+t % n=t:=by rw[Nat.mul_comm];exact Nat.div_add_mod t n
 have:=h (t/n) (t % n) hi hj
 unfold mv at this
 rw[e,List.getD_eq_getElem?_getD,List.getElem?_eq_getElem h1,List.getD_eq_getElem?_getD,List.getElem?_eq_getElem h2]at this
 have a:=hX.ok _ (List.getElem_mem h1)
 have b:=hY.ok _ (List.getElem_mem h2)
 exact aEP (K:=K) a b (by have:=(zL a).1;omega) (by have:=(zL b).1;omega) this
theorem aKR(K i j:Nat):(idF i j).val K=if i=j then 2^K else 0:=by
 unfold idF
 by_cases h:i=j
 ·rw[if_pos h,if_pos h]
  show dv K false 1 0=_
  unfold dv sv
  rw[if_neg (by simp),show(0+(K:Int)).toNat=K by omega];simp
 ·rw[if_neg h,if_neg h];exact ZU K
theorem aPg{K n i j:Nat}(hi:i<n)(hj:j<n):mv K (gId n) n i j=if i=j then 2^K else 0:=by
 unfold mv gId
 rw[aKU hi hj,aKR]
end Go.Ab
namespace Go.Ab
open Go Go.Proofs
/-! ### Matrices that were told,or not-/
def optM(n N:Nat)(T:List ExV):Prop:=(N=n∧matV n T)∨(N=0∧T=[])
theorem adr{n:Nat}{l:List ExV}(h1:1≤n)(h4:n≤4)(hl:l.length=n*n):optM n (gN n l) (gT l):=by
 cases hf:l.all ExV.fit
 ·exact .inr ⟨if_neg (by rw[hf];simp),if_neg (by rw[hf];simp)⟩
 ·obtain⟨e1,e2,e3⟩:=KZ (l:=l) h1 h4 hl hf
  exact .inl ⟨e1,by rw[e2];exact e3⟩
def bbG(M:List DyV):Prop:=M.length≤16∧∀d∈M,d.xs.length≤200
theorem matV.lens{n:Nat}{L:List ExV}(h:matV n L):bbG (L.map ExV.dyv):=⟨by rw[List.length_map];exact h.l16,fun d hd=>by
 obtain⟨x,hx,rfl⟩:=List.mem_map.1 hd
 have:=(zL (h.ok x hx)).2.2.1
 show(lim x.m).length≤200
 omega⟩
theorem optM.lens{n N:Nat}{T:List ExV}(h:optM n N T):bbG (T.map ExV.dyv):=by
 rcases h with⟨-,h⟩|⟨-,rfl⟩
 ·exact h.lens
 ·exact⟨by simp,by simp⟩
theorem aBO(M:List DyV):Yl ((0:Nat):Int) M=false:=by unfold Yl;simp
theorem aL2(n N N':Nat)(T T':List ExV)(h1:1≤n)(h4:n≤4)(h:optM n N T)(h':optM n N' T'):Con Tryz.prog 20 false [.ag [.v (.int .i64 (N)),.sl (T).length (qn ExV.cs (T))],.ag [.v (.int .i64 (N')),.sl (T').length (qn ExV.cs (T'))]] []
  (fun r hs bs=>hs=[]∧bs=[]∧∃(N2:Nat) (T2:List ExV) (b:Bool),optM n N2 T2∧(b=true→(N=n∧matV n T)∧(N'=n∧matV n T')∧(j8 n T T').all ExV.fit=true∧(N2=n∧matV n T2)∧T2=(j8 n T T').map ExV.can)∧r=.tu [.ag [.v (.int .i64 (N2)),.sl (T2).length (qn ExV.cs (T2))],.v (.bool b)]):=by
 have l1:=h.lens
 have l2:=h'.lens
 have bad:arD N (T.map ExV.dyv) N' (T'.map ExV.dyv)=false→Con Tryz.prog 20 false [.ag [.v (.int .i64 (N)),.sl (T).length (qn ExV.cs (T))],.ag [.v (.int .i64 (N')),.sl (T').length (qn ExV.cs (T'))]] [] (isA (.tu [.ag [.v (.int .i64 0),.sl 0 []],.v (.bool false)])):=fun hb=>by
  have c:=YV N N' (T.map ExV.dyv) (T'.map ExV.dyv) l1.1 l1.2 l2.1 l2.2 hb
  rw[Qb,Qb,List.length_map,List.length_map]at c
  exact c
 have fin:∀{r:AV} {hs bs:List Ob},isA (.tu [.ag [.v (.int .i64 0),.sl 0 []],.v (.bool false)]) r hs bs→hs=[]∧bs=[]∧∃(N2:Nat) (T2:List ExV) (b:Bool),optM n N2 T2∧(b=true→(N=n∧matV n T)∧(N'=n∧matV n T')∧(j8 n T T').all ExV.fit=true∧(N2=n∧matV n T2)∧T2=(j8 n T T').map ExV.can)∧r=.tu [.ag [.v (.int .i64 (N2)),.sl (T2).length (qn ExV.cs (T2))],.v (.bool b)]:=
  fun⟨a,b,c⟩=>⟨b,c,0,[],false,.inr ⟨rfl,rfl⟩,(fun h=>by cases h),a⟩
 rcases h with⟨rfl,hT⟩|⟨rfl,rfl⟩
 ·rcases h' with⟨rfl,hT'⟩|⟨rfl,rfl⟩
  ·refine(aef _ T T' hT hT').mono fun r hs bs ⟨a,b,c⟩=>⟨b,c,_,_,_,adr (l:=j8 _ T T') h1 h4 zx,fun hf=>?_,a⟩
   obtain⟨e1,e2,e3⟩:=KZ (l:=j8 _ T T') h1 h4 zx hf
   exact⟨⟨rfl,hT⟩,⟨rfl,hT'⟩,hf,⟨e1,by rw[e2];exact e3⟩,e2⟩
  ·exact(bad (by unfold arD;rw[aBO,Bool.false_and,Bool.and_false])).mono fun r hs bs h=>fin h
 ·exact(bad (by unfold arD;rw[aBO,Bool.false_and])).mono fun r hs bs h=>fin h
theorem aed(n N N':Nat)(T T':List ExV)(h1:1≤n)(h4:n≤4)(h:optM n N T)(h':optM n N' T'):Con Tryz.prog 17 false [.ag [.v (.int .i64 (N)),.sl (T).length (qn ExV.cs (T))],.ag [.v (.int .i64 (N')),.sl (T').length (qn ExV.cs (T'))]] []
  (fun r hs bs=>hs=[]∧bs=[]∧∃(N2:Nat) (T2:List ExV) (b:Bool),optM n N2 T2∧(b=true→(N=n∧matV n T)∧(N'=n∧matV n T')∧(zJ n T T').all ExV.fit=true∧(N2=n∧matV n T2)∧T2=(zJ n T T').map ExV.can)∧r=.tu [.ag [.v (.int .i64 (N2)),.sl (T2).length (qn ExV.cs (T2))],.v (.bool b)]):=by
 have l1:=h.lens
 have l2:=h'.lens
 have bad:arD N (T.map ExV.dyv) N' (T'.map ExV.dyv)=false→Con Tryz.prog 17 false [.ag [.v (.int .i64 (N)),.sl (T).length (qn ExV.cs (T))],.ag [.v (.int .i64 (N')),.sl (T').length (qn ExV.cs (T'))]] [] (isA (.tu [.ag [.v (.int .i64 0),.sl 0 []],.v (.bool false)])):=fun hb=>by
  have c:=YR N N' (T.map ExV.dyv) (T'.map ExV.dyv) l1.1 l1.2 l2.1 l2.2 hb
  rw[Qb,Qb,List.length_map,List.length_map]at c
  exact c
 have fin:∀{r:AV} {hs bs:List Ob},isA (.tu [.ag [.v (.int .i64 0),.sl 0 []],.v (.bool false)]) r hs bs→hs=[]∧bs=[]∧∃(N2:Nat) (T2:List ExV) (b:Bool),optM n N2 T2∧(b=true→(N=n∧matV n T)∧(N'=n∧matV n T')∧(zJ n T T').all ExV.fit=true∧(N2=n∧matV n T2)∧T2=(zJ n T T').map ExV.can)∧r=.tu [.ag [.v (.int .i64 (N2)),.sl (T2).length (qn ExV.cs (T2))],.v (.bool b)]:=
  fun⟨a,b,c⟩=>⟨b,c,0,[],false,.inr ⟨rfl,rfl⟩,(fun h=>by cases h),a⟩
 rcases h with⟨rfl,hT⟩|⟨rfl,rfl⟩
 ·rcases h' with⟨rfl,hT'⟩|⟨rfl,rfl⟩
  ·refine(aec _ T T' hT hT').mono fun r hs bs ⟨a,b,c⟩=>⟨b,c,_,_,_,adr (l:=zJ _ T T') h1 h4 zx,fun hf=>?_,a⟩
   obtain⟨e1,e2,e3⟩:=KZ (l:=zJ _ T T') h1 h4 zx hf
   exact⟨⟨rfl,hT⟩,⟨rfl,hT'⟩,hf,⟨e1,by rw[e2];exact e3⟩,e2⟩
  ·exact(bad (by unfold arD;rw[aBO,Bool.false_and,Bool.and_false])).mono fun r hs bs h=>fin h
 ·exact(bad (by unfold arD;rw[aBO,Bool.false_and])).mono fun r hs bs h=>fin h
end Go.Ab
namespace Go.Ab
/-! ### Determinants of integers-/
def sgI(k:Nat):Int:=if k % 2=1 then-1 else 1
def skp(r i:Nat):Nat:=if i<r then i else i+1
def JF(A:Nat→Nat→Int)(r c:Nat):Nat→Nat→Int:=fun i j=>A (skp r i) (skp c j)
def QI:Nat→(Nat→Nat→Int)→Int
 |0,_=>1
 |n+1,A=>jh (fun j=>sgI j*(A 0 j*QI n (JF A 0 j))) (n+1)
theorem bbM(A:Nat→Nat→Int):QI 1 A=A 0 0:=by
 simp[QI,jh,sgI]
theorem bbd(A:Nat→Nat→Int):QI 2 A=A 0 0*A 1 1-A 0 1*A 1 0:=by
 simp[QI,jh,sgI,JF,skp];omega
theorem bbc(A:Nat→Nat→Int):QI 3 A=A 0 0*(A 1 1*A 2 2-A 1 2*A 2 1)-A 0 1*(A 1 0*A 2 2-A 1 2*A 2 0)+A 0 2*(A 1 0*A 2 1-A 1 1*A 2 0):=by
 rw[QI]
 simp only[bbd,jh,sgI,JF,skp]
 simp
 omega
theorem bel(A:Nat→Nat→Int):QI 4 A=(A 0 0*A 1 1-A 0 1*A 1 0)*(A 2 2*A 3 3-A 2 3*A 3 2)-(A 0 0*A 1 2-A 0 2*A 1 0)*(A 2 1*A 3 3-A 2 3*A 3 1)
  +(A 0 0*A 1 3-A 0 3*A 1 0)*(A 2 1*A 3 2-A 2 2*A 3 1)+(A 0 1*A 1 2-A 0 2*A 1 1)*(A 2 0*A 3 3-A 2 3*A 3 0)
  -(A 0 1*A 1 3-A 0 3*A 1 1)*(A 2 0*A 3 2-A 2 2*A 3 0)+(A 0 2*A 1 3-A 0 3*A 1 2)*(A 2 0*A 3 1-A 2 1*A 3 0):=by
 rw[QI]
 simp only[bbc,jh,sgI,JF,skp]
 simp
 grind
end Go.Ab
namespace Go.Ab
theorem Qo:∀{n:Nat} {A B:Nat→Nat→Int},(∀i j,i<n→j<n→A i j=B i j)→QI n A=QI n B
 |0,_,_,_=>rfl
 |n+1,A,B,h=>by
  rw[QI,QI]
  refine yQ fun j hj=>?_
  rw[h 0 j (by omega) hj,Qo (n:=n) (A:=JF A 0 j) (B:=JF B 0 j) fun i k hi hk=>?_]
  unfold JF skp
  exact h _ _ (by split<;>omega) (by split<;>omega)
def m2(A:Nat→Nat→Int)(r s c d:Nat):Int:=A r c*A s d-A r d*A s c
def arC(n:Nat)(A B:Nat→Nat→Int):Nat→Nat→Int:=fun i j=>jh (fun t=>A i t*B t j) n
theorem bdV(A B:Nat→Nat→Int)(i j:Nat):arC 4 A B i j=A i 0*B 0 j+A i 1*B 1 j+A i 2*B 2 j+A i 3*B 3 j:=by
 simp[arC,jh]
theorem bdW(A B:Nat→Nat→Int)(i j:Nat):arC 3 A B i j=A i 0*B 0 j+A i 1*B 1 j+A i 2*B 2 j:=by
 simp[arC,jh]
theorem bdX(A B:Nat→Nat→Int)(i j:Nat):arC 2 A B i j=A i 0*B 0 j+A i 1*B 1 j:=by
 simp[arC,jh]
theorem bdY(A B:Nat→Nat→Int)(i j:Nat):arC 1 A B i j=A i 0*B 0 j:=by
 simp[arC,jh]
def q4(B:Nat→Nat→Int)(p q r s:Nat):Int:=m2 B p q 0 1*m2 B r s 2 3-m2 B p q 0 2*m2 B r s 1 3+m2 B p q 0 3*m2 B r s 1 2+m2 B p q 1 2*m2 B r s 0 3-m2 B p q 1 3*m2 B r s 0 2+m2 B p q 2 3*m2 B r s 0 1
end Go.Ab
namespace Go.Ab
def aDz(n:Nat)(A:Nat→Nat→Int)(k j:Nat):Int:=sgI (k+j)*QI (n-1) (JF A j k)
theorem aMJ{n:Nat}(hn:n≤4)(A:Nat→Nat→Int){i j:Nat}(hi:i<n)(hj:j<n):arC n A (aDz n A) i j=if i=j then QI n A else 0:=by
 rcases(show n=1∨n=2∨n=3∨n=4 by omega)with rfl|rfl|rfl|rfl
 ·obtain rfl:i=0:=by omega
  obtain rfl:j=0:=by omega
  rw[bdY,bbM,if_pos rfl]
  simp[aDz,sgI,QI]
 ·simp only[bdX,aDz,bbd,show 2-1=1 from rfl,bbM]
  rcases(show i=0∨i=1 by omega)with rfl|rfl<;>rcases(show j=0∨j=1 by omega)with rfl|rfl<;>(simp[sgI,JF,skp];try grind)
 ·simp only[bdW,aDz,bbc,show 3-1=2 from rfl,bbd]
  rcases(show i=0∨i=1∨i=2 by omega)with rfl|rfl|rfl<;>rcases(show j=0∨j=1∨j=2 by omega)with rfl|rfl|rfl<;>(simp[sgI,JF,skp];try grind)
 ·simp only[bdV,aDz,bel,show 4-1=3 from rfl,bbc]
  rcases(show i=0∨i=1∨i=2∨i=3 by omega)with rfl|rfl|rfl|rfl<;>rcases(show j=0∨j=1∨j=2∨j=3 by omega)with rfl|rfl|rfl|rfl<;>(simp[sgI,JF,skp];try grind)
end Go.Ab
namespace Go.Ab
open Go Go.Proofs
/-! ### What determinants are worth-/
theorem arg{l m:List ExV}{t:Nat}:(l++m).getD t ex0=if t<l.length then l.getD t ex0 else m.getD (t-l.length) ex0:=by
 rw[List.getD_eq_getElem?_getD,List.getElem?_append]
 split<;>rw[List.getD_eq_getElem?_getD]
theorem adx{n:Nat}{l:List ExV}{r c i:Nat}(hi:i≠r):∀j t,t<(mnC n l r c i j).length→(mnC n l r c i j).getD t ex0=l.getD (i*n+skp c t) ex0
 |0,t,h=>by simp[mnC]at h
 |j+1,t,h=>by
  have hl:=Zg (n:=n) (l:=l) (r:=r) (c:=c) (i:=i) j
  rw[if_neg hi]at hl
  rw[mnC]at h ⊢
  by_cases hc:j=c
  ·rw[if_neg (fun h=>h.2 hc)]at h ⊢
   exact adx hi j t h
  ·rw[if_pos ⟨hi,hc⟩]at h ⊢
   rw[arg]
   by_cases ht:t<(mnC n l r c i j).length
   ·rw[if_pos ht,adx hi j t ht]
   ·rw[if_neg ht]
    rw[List.length_append,List.length_singleton]at h
    have e:t=(mnC n l r c i j).length:=by omega
    have hs:skp c t=j:=by unfold skp;split at hl<;>split<;>omega
    rw[hs,e,Nat.sub_self];rfl
theorem ao4{n:Nat}{l:List ExV}{r c:Nat}(hc:c<n):∀k i j,i<(if r<k then k-1 else k)→j<n-1→(mnR n l r c k).getD (i*(n-1)+j) ex0=l.getD (skp r i*n+skp c j) ex0
 |0,i,j,h,_=>by simp at h
 |k+1,i,j,h,hj=>by
  have hl:=jW (n:=n) (l:=l) (r:=r) (c:=c) hc k
  rw[mnR,arg]
  by_cases ht:i<(if r<k then k-1 else k)
  ·have:i*(n-1)+j<(if r<k then k-1 else k)*(n-1):=by
    have:=Nat.mul_le_mul_right (n-1) (show i+1≤(if r<k then k-1 else k) by omega)
    rw[Nat.succ_mul]at this
    omega
   rw[if_pos (by rw[hl];exact this)]
   exact ao4 hc k i j ht hj
  ·have hk:k≠r:=by
    intro e;subst e
    rw[if_pos (by omega)]at h
    rw[if_neg (by omega)]at ht
    omega
   have e:i=(if r<k then k-1 else k):=by split at h<;>split at ht<;>split<;>omega
   have hs:skp r i=k:=by unfold skp;split at e<;>split<;>omega
   rw[←e]at hl
   rw[if_neg (by rw[hl];omega),hl,Nat.add_sub_cancel_left,hs]
   have h2:=Zg (n:=n) (l:=l) (r:=r) (c:=c) (i:=k) n
   rw[if_neg hk,if_pos hc]at h2
   exact adx hk n j (by omega)
theorem aKq{K n:Nat}{l:List ExV}{r c i j:Nat}(hr:r<n+1)(hc:c<n+1)(hi:i<n)(hj:j<n):mv K (mnR (n+1) l r c (n+1)) n i j=JF (mv K l (n+1)) r c i j:=by
 unfold mv JF
 have:=ao4 (n:=n+1) (l:=l) (r:=r) hc (n+1) i j (by rw[if_pos hr];omega) (by omega)
 rw[show n+1-1=n from rfl]at this
 rw[this]
theorem aO1{K n:Nat}{l:List ExV}{r c:Nat}(hl:l.length=n*n)(h:eK K l):eK K (mnR n l r c n):=fun x hx=>h x (yT hl n (Nat.le_refl n) x hx)
theorem aow{K k:Nat}{x:ExV}:(x.sgn k).val K=sgI k*x.val K:=by
 unfold ExV.sgn sgI
 split
 ·rw[aoY];omega
 ·omega
theorem aN4{k:Nat}{x:ExV}:(x.sgn k).e=x.e:=by unfold ExV.sgn;split<;>rfl
theorem YE{K:Nat}:∀(n:Nat) (l:List ExV),l.length=n*n→eK K l→(jv n l).val (K*n)=QI n (mv K l n)∧ -((K*n:Nat):Int)≤(jv n l).e
 |0,l,_,_=>by
  refine⟨?_,by show-((0:Nat):Int)≤0;omega⟩
  show dv 0 false 1 0=1
  decide+kernel
 |n+1,l,hl,hK=>by
  have hf:∀k,k≤n+1→((List.range k).foldl (fun s j=>s.plus (((l.getD (0*(n+1)+j) ex0).times (jv n (mnR (n+1) l 0 j (n+1)))).sgn j)) ex0).val (K*(n+1))=jh (fun j=>sgI j*(mv K l (n+1) 0 j*QI n (JF (mv K l (n+1)) 0 j))) k∧ -((K*(n+1):Nat):Int)≤((List.range k).foldl (fun s j=>s.plus (((l.getD (0*(n+1)+j) ex0).times (jv n (mnR (n+1) l 0 j (n+1)))).sgn j)) ex0).e:=by
   intro k
   induction k with
   |zero=>exact fun _=>⟨ZU _,by show-((K*(n+1):Nat):Int)≤0;omega⟩
   |succ k ih=>
    intro hk
    obtain⟨h1,h2⟩:=ih (by omega)
    obtain⟨h3,h4⟩:=YE n (mnR (n+1) l 0 k (n+1)) (by rw[jW (by omega),if_pos (by omega)];rfl) (aO1 hl hK)
    have h5:=K6 hK (i:=0*(n+1)+k) (by rw[hl];exact qS (by omega) hk)
    rw[List.range_succ,List.foldl_append,List.foldl_cons,List.foldl_nil,jh]
    have h6: -((K*(n+1):Nat):Int)≤(((l.getD (0*(n+1)+k) ex0).times (jv n (mnR (n+1) l 0 k (n+1)))).sgn k).e:=by
     rw[aN4,Nat.mul_succ]
     show _≤(l.getD (0*(n+1)+k) ex0).e+(jv n (mnR (n+1) l 0 k (n+1))).e
     omega
    refine⟨?_,KE h2 h6⟩
    rw[Qd h2 h6,h1,aow,Nat.mul_succ,Nat.add_comm (K*n) K,y4 h5 h4,h3,Qo (n:=n) fun i j hi hj=>aKq (by omega) (by omega) hi hj]
    rfl
  exact hf (n+1) (Nat.le_refl _)
theorem ap2{n:Nat}{L:List ExV}(h:matV n L)(hf:(jv n L).fit=true):(jv n L).tel.val (3000*n)=QI n (mv 3000 L n):=by
 obtain⟨h1,h2⟩:=YE n L h.len (h.eK (K:=3000) (by omega))
 rw[adi hf,YY h2,h1]
end Go.Ab
namespace Go.Ab
open Go Go.Proofs
/-! ### Turned matrices-/
def bd9(n:Nat)(l:List ExV):List ExV:=gl n (fun i j=>l.getD (j*n+i) ex0) (n*n)
theorem aJU{L:List ExV}(h:∀x∈L,x.ok=true):L.all ExV.fit=true∧L.map ExV.can=L:=
 ⟨List.all_eq_true.2 fun x hx=>aOI (h x hx),by
  conv=>rhs;rw[←List.map_id L]
  exact List.map_congr_left fun x hx=>aeG (h x hx)⟩
end Go.Ab
namespace Go.Ab
open Go Go.Proofs
/-! ### Adjugates and minors-/
def arE(n:Nat)(l:List ExV)(a b:Nat):ExV:=(jv (n-1) (mnR n l b a n)).sgn (b+a)
def Zj(n:Nat)(l:List ExV):List ExV:=gl n (arE n l) (n*n)
theorem Yj{n:Nat}{l:List ExV}{r c:Nat}(hr:r<n)(hc:c<n):(mnR n l r c n).length=(n-1)*(n-1):=by rw[jW hc,if_pos hr]
theorem aO2{n:Nat}{l:List ExV}{lo hi:Int}{r c:Nat}(hl:l.length=n*n)(hb:gbd lo hi l):gbd lo hi (mnR n l r c n):=fun x hx=>hb x (yT hl n (Nat.le_refl n) x hx)
theorem aqG(n:Nat)(l:List ExV)(a b:Nat)(hn:n≤4)(ha:a<n)(hb:b<n)(hl:l.length=n*n)(hd:gbd (-10000) 10000 l):
  Con Tryz.prog 198 false [.v (.int .i64 a),.v (.int .i64 b),.fp [.v (.int .i64 n),.sl l.length (qn ExV.cs l)] 0] [] (isA (.ag [.v (.bool (arE n l a b).s),.sl (lim (arE n l a b).m).length (qc (lim (arE n l a b).m)),.v (.int .i64 (arE n l a b).e)])):=by
 refine Con.frzA ?_
 have cm:=Z0 n l b a (by omega) hl hb ha
 have cd:=aqL (n-1) (mnR n l b a n) (by omega) (Yj hb ha) (aO2 hl hd)
 rw[show((n:Int)-1)=((n-1:Nat):Int) by omega]at cm
 unfold arE
 generalize jv (n-1) (mnR n l b a n)=y at*
 generalize mnR n l b a n=M at*
 have cs:=JN y (b+a) (by omega)
 rw[Int.natCast_add]at cs
 generalize y.sgn (b+a)=z at*
 refine Con.of_w (rs:=[.cell 5 118]) Tryz.func198 rfl Tryz.ntmps198 rfl ?_
 simp(disch:=omega)only[go_sem]
 refine qa (cm) ?_
 simp(disch:=omega)only[go_sem]
 refine qa (cd) ?_
 simp(disch:=omega)only[go_sem]
 refine qa (cs) ?_
 simp(disch:=omega)only[go_sem]
 exact qi
theorem aC2(n:Nat)(l:List ExV)(hn:n≤4)(hl:l.length=n*n)(hd:gbd (-10000) 10000 l):Con Tryz.prog 118 false [.ag [.v (.int .i64 (n)),.sl (l).length (qn ExV.cs (l))]] [] (isA (.ag [.v (.int .i64 (n)),.sl (Zj n l).length (qn ExV.cs (Zj n l))])):=by
 refine Con.frzA ?_
 have c:=zV n 198 [.fp [.v (.int .i64 n),.sl l.length (qn ExV.cs l)] 0] (arE n l) hn (fun i j hi hj=>aqG n l i j hn hi hj hl hd) (by simp(disch:=omega)only[go_sem]) (fun h=>rfl) (fun h=>rfl) (fun ks=>by simp(disch:=omega)only[go_sem]) (fun ρ=>rfl)
 change Con _ _ _ _ _ (isA (.ag [.v (.int .i64 (n)),.sl (Zj n l).length (qn ExV.cs (Zj n l))]))at c
 refine Con.of_aw Tryz.func118 rfl Tryz.ntmps118 (by simp) (by simp) (by simp) (AW.seqLe (E:=[(1,.fp [.v (.int .i64 n),.sl l.length (qn ExV.cs l)] 0),(2,.pt 0 0)]) (H:=[(0,.own 0 [.v (.int .i64 0),.v (.slice none 0 0)])]) (W.sound ?_) (W.sound ?_))
 ·show @W Tryz.prog 7 ⟨_⟩ ⟨_⟩ _ _
  simp(disch:=omega)only[go_sem]
  exact(Le.frz 30000000 (z:=0) (ks:=[.v (.int .i64 n),.sl l.length (qn ExV.cs l)]) (by simp(disch:=omega)only[go_sem]) rfl (by simp(disch:=omega)only[go_sem])).trans (Le.lst [(0,40000000)] _ _ rfl (by simp(disch:=omega)only[go_sem]) (by simp(disch:=omega)only[go_sem]))
 show @W Tryz.prog 7 ⟨_⟩ ⟨fun x σ=>@q6 _ _ _ ⟨_⟩ _ ⟨_⟩ x σ⟩ _ _
 simp(disch:=omega)only[go_sem]
 refine qa (c) ?_
 simp(disch:=omega)only[go_sem]
 exact qi
theorem aK0{n:Nat}{l:List ExV}(h4:n≤4)(hl:l.length=n*n)(hd:gbd (-10000) 10000 l):gbd (-30000) 30013 (Zj n l):=
 apv fun i j hi hj=>ExV.sgn_bd ((ZW (n-1) (by omega) (Yj hj hi) (aO2 hl hd)).mono (by omega) (by omega))
theorem aee(n:Nat)(L:List ExV)(h:matV n L):Con Tryz.prog 64 false [.ag [.v (.int .i64 (n)),.sl (L).length (qn ExV.cs (L))]] [] (isA (.tu [.ag [.v (.int .i64 (gN n (Zj n L))),.sl (gT (Zj n L)).length (qn ExV.cs (gT (Zj n L)))],.v (.bool ((Zj n L).all ExV.fit))])):=by
 refine Con.frzA ?_
 have hb:gbd (-10000) 10000 L:=zZ h.bd (by omega) (by omega)
 have co:=aC2 n L h.n4 h.len hb
 have hl:(Zj n L).length=n*n:=zx
 have cm:=yC n (Zj n L) (by have:=jQ h.n4;omega) (zZ (aK0 h.n4 h.len hb) (by omega) (by omega))
 generalize Zj n L=z at*
 refine Con.of_w (rs:=[.cell 2 25,.tmp 3]) Tryz.func64 rfl Tryz.ntmps64 rfl ?_
 simp(disch:=omega)only[go_sem]
 refine qk (zX n L h) ?_
 simp(disch:=omega)only[go_sem]
 refine qa (q8 n L (by have:=h.l16;omega)) ?_
 simp(disch:=omega)only[go_sem]
 refine qa (co) ?_
 simp(disch:=omega)only[go_sem]
 refine qa (cm) ?_
 simp(disch:=omega)only[go_sem]
 exact qi
theorem YU(k:Int)(M:List DyV)(h1:M.length≤16)(h2:∀d∈M,d.xs.length≤200)(h:Yl k M=false):Con Tryz.prog 64 false [.ag [.v (.int .i64 k),.sl M.length (qn DyV.cs M)]] [] (isA (.tu [.ag [.v (.int .i64 0),.sl 0 []],.v (.bool false)])):=by
 refine Con.frzA ?_
 have c:=yD k M h1 h2
 rw[h]at c
 refine Con.of_w (rs:=[.cell 2 25,.tmp 3]) Tryz.func64 rfl Tryz.ntmps64 rfl ?_
 simp(disch:=omega)only[go_sem]
 refine qk (c) ?_
 simp(disch:=omega)only[go_sem]
 exact qi
theorem aDA{K n:Nat}{L:List ExV}{i j:Nat}(hl:L.length=n*n)(hK:eK K L)(hi:i<n)(hj:j<n):(arE n L i j).val (K*(n-1))=aDz n (mv K L n) i j∧ -((K*(n-1):Nat):Int)≤(arE n L i j).e:=by
 obtain⟨m,rfl⟩:∃m,n=m+1:=⟨n-1,by omega⟩
 obtain⟨h1,h2⟩:=YE (K:=K) m (mnR (m+1) L j i (m+1)) (Yj hj hi) (aO1 hl hK)
 unfold arE aDz
 rw[show m+1-1=m from rfl,aow,aN4,h1,Nat.add_comm j i]
 exact⟨by rw[Qo fun a b ha hb=>aKq hj hi ha hb],h2⟩
theorem aah(n:Nat)(L:List ExV)(i j:Nat)(h:matV n L)(hi:i<n)(hj:j<n):Con Tryz.prog 150 true [.ag [.v (.int .i64 (n)),.sl (L).length (qn ExV.cs (L))],.v (.int .i64 i),.v (.int .i64 j)] [] (isA (.v (.bool true))):=by
 have h4:=h.n4
 have c1:=zm i 0 (n-1)
 have c2:=zm j 0 (n-1)
 rw[decide_eq_true (show(0:Int)≤i by omega),decide_eq_true (show(i:Int)≤n-1 by omega)]at c1
 rw[decide_eq_true (show(0:Int)≤j by omega),decide_eq_true (show(j:Int)≤n-1 by omega)]at c2
 refine Con.of_w (rs:=[.tmp 6]) Tryz.func150 rfl Tryz.ntmps150 rfl ?_
 simp(disch:=omega)only[go_sem]
 refine qk (zX n L h) ?_
 simp(disch:=omega)only[go_sem]
 refine qk (c1) ?_
 simp(disch:=omega)only[go_sem]
 refine qk (c2) ?_
 simp(disch:=omega)only[go_sem]
 exact qx
theorem aEV{n:Nat}{L:List ExV}{r c:Nat}(h:matV n L)(h2:2≤n)(hr:r<n)(hc:c<n):matV (n-1) (mnR n L r c n):=
 ⟨by omega,by have:=h.n4;omega,Yj hr hc,fun x hx=>h.ok x (yT h.len n (Nat.le_refl n) x hx)⟩
theorem YS(n:Nat)(L:List ExV)(i j:Nat)(h:matV n L)(h2:2≤n)(hi:i<n)(hj:j<n):Con Tryz.prog 65 false [.ag [.v (.int .i64 (n)),.sl (L).length (qn ExV.cs (L))],.v (.int .i64 i),.v (.int .i64 j)] [] (isA (.tu [.ag [.v (.int .i64 (((n-1:Nat):Int))),.sl (mnR n L i j n).length (qn ExV.cs (mnR n L i j n))],.v (.bool true)])):=by
 refine Con.frzA ?_
 have hM:=aEV h h2 hi hj
 have cm:=Z0 n L i j ⟨h.n1,h.n4⟩ h.len hi hj
 rw[show((n:Int)-1)=((n-1:Nat):Int) by omega]at cm
 have ct:=yC (n-1) (mnR n L i j n) (by have:=hM.l16;omega) hM.bd4
 obtain⟨e1,e2⟩:=aJU hM.ok
 unfold gN gT at ct
 rw[e1,if_pos rfl,if_pos rfl,e2]at ct
 generalize mnR n L i j n=M at*
 refine Con.of_w (rs:=[.cell 6 25,.tmp 7]) Tryz.func65 rfl Tryz.ntmps65 rfl ?_
 simp(disch:=omega)only[go_sem]
 refine qk (aah n L i j h hi hj) ?_
 simp(disch:=omega)only[go_sem]
 simp(disch:=omega)only[go_sem,decide_eq_false (show ¬(n:Int)=1 by omega)]
 refine qa (q8 n L (by have:=h.l16;omega)) ?_
 simp(disch:=omega)only[go_sem]
 refine qa (cm) ?_
 simp(disch:=omega)only[go_sem]
 refine qa (ct) ?_
 simp(disch:=omega)only[go_sem]
 exact qi
end Go.Ab
namespace Go.Ab
open Go
section
variable {X:Type}{f:X→List AV}{z:Nat}
theorem aJe(hz:∀x,(f x).length=z){y:X}{L:List X}{i:Nat}(hi:i<L.length):wr (qn f L) (i*z) (f y)=qn f (L.set i y):=by
 have e:L=L.take i++[L[i]]++L.drop (i+1):=by
  rw[List.append_assoc,List.singleton_append,List.getElem_cons_drop,List.take_append_drop]
 have h1:(qn f (L.take i)).length=i*z:=by rw[ye hz,List.length_take,Nat.min_eq_left (by omega)]
 have h2:qn f L=qn f (L.take i)++f L[i]++qn f (L.drop (i+1)):=by
  conv=>lhs;rw[e]
  rw[←Qz,←Qz,zl,yd,List.append_nil]
 rw[h2,J3 _ _ _ _ (by rw[List.length_append,h1,hz,hz];omega),←h1,y0 _ _ _ (by rw[hz,hz]),List.set_eq_take_append_cons_drop,if_pos hi,←Qz,zl,List.append_assoc]
end
theorem aLK{L:List DyV}{i:Nat}{s:Bool}{xs:List Int}{e:Int}(hi:i<L.length):wr (qn DyV.cs L) (i*3) [.v (.bool s),.sl xs.length (qc xs),.v (.int .i64 e)]=qn DyV.cs (L.set i ⟨s,xs,e⟩):=aJe QU (y:=⟨s,xs,e⟩) hi
theorem aLN{l:List DyV}{i:Nat}(hi:i<l.length):cut (qn DyV.cs l) (i*3) 3=[.v (.bool (l.getD i dy0).s),.sl (l.getD i dy0).xs.length (qc (l.getD i dy0).xs),.v (.int .i64 (l.getD i dy0).e)]:=Zz (l:=l) QU hi dy0
end Go.Ab
namespace Go.Ab
open Go Go.Proofs
section
variable (l:List UInt8)(hl:l.length≤9223372036854775807)(i h:Int)(hi:0≤i∧i≤l.length)
include hl hi
theorem Jo:Con Tryz.prog 114 false [.pt 10000000 0] [.own 0 [.sl l.length (ql l),.v (.int .i64 i),.v (.int .i64 h)]] (Y6 l aZo):=by
 refine Con.cur l i h (Q:=fun r hs=>(∀ob∈hs,ob.men fun _=>False)∧aZo (qE (rhp hs []) 6 r)) ?_ fun _ _ h=>h
 refine Con.of_aw Tryz.func114 rfl Tryz.ntmps114 (by simp) (by simp) (by simp) (W.sound ?_)
 show @W Tryz.prog 47 ⟨_⟩ ⟨fun x σ=>@q6 _ _ _ ⟨_⟩ _ ⟨_⟩ x σ⟩ _ _
 simp(disch:=omega)only[go_sem]
 refine qw (aLW l hl i h hi) ?_
 rintro r i1 h1 hi1 ⟨n,hn,rfl⟩
 simp(disch:=omega)only[go_sem]
 refine yo false [10000000] (ad2 l hl i1 h1 hi1 n hn) (by simp(disch:=omega)only[go_sem]) (by simp(disch:=omega)only[go_sem]) rfl (qN (z:=0) (cs:=[.sl l.length (ql l),.v (.int .i64 i1),.v (.int .i64 h1)]) (by simp(disch:=omega)only[go_sem]) (by simp(disch:=omega)only[go_sem])) (by intro n hn;exact⟨_,List.mem_cons_self ..,by rw[List.mem_singleton.1 hn];rfl⟩) ?_
 rintro r hs bs ⟨⟨k,M,o,m,g1,g0,g2,g3,rfl,rfl⟩,i2,h2,hi2,rfl⟩-
 refine⟨by simp[qM];simp(disch:=omega)only[go_sem],?_⟩
 simp(disch:=omega)only[go_sem]
 have hq:=jQ hn.2
 have hlen:((M.drop o).take m).length=m:=by rw[List.length_take,List.length_drop];omega
 have hc:cut (qn DyV.cs M) (o*3) (m*3)=qn DyV.cs ((M.drop o).take m):=adm QU o m
 have cM:=Ja k ((M.drop o).take m) (by omega) (fun d hd=>g3 d (List.mem_of_mem_drop (List.mem_of_mem_take hd)))
 rw[hlen]at cM
 have hm:∀(M:List DyV),∀ob∈[Ob.own 3 (qn DyV.cs M)],ob.men fun _=>False:=fun M ob ho=>by rw[List.mem_singleton.1 ho];exact of_eq_true apW
 refine qk cM ?_ (by simp(disch:=omega)only[go_sem,hc])
 simp(disch:=omega)only[go_sem]
 cases hB:Yl k ((M.drop o).take m)
 ·simp(disch:=omega)only[go_sem]
  refine qg [(0,120000000)] [.own 3 (qn DyV.cs M)] [.own 0 [.sl l.length (ql l),.v (.int .i64 i2),.v (.int .i64 h2)]] [.ag [.v (.int .i64 k),.rf 0 (o*3) m]] rfl (by simp(disch:=omega)only[go_sem]) (by simp(disch:=omega)only[go_sem]) (by simp) (by simp) ⟨⟨hm M,Yk g1 (by omega) g3⟩,_,_,hi2,rfl⟩
 obtain⟨n2,L,rfl,hML,hL⟩:=aEW hB
 have hm2:m=n2*n2:=by rw[←hlen,hML,List.length_map,hL.len]
 have hnn:n2=n∧o=0:=by
  have:=hL.n1
  have:=hL.n4
  obtain⟨hn1,hn4⟩:=hn
  rcases(show n=1∨n=2∨n=3∨n=4 by omega)with rfl|rfl|rfl|rfl<;>rcases(show n2=1∨n2=2∨n2=3∨n2=4 by omega)with rfl|rfl|rfl|rfl<;>omega
 obtain⟨rfl,rfl⟩:=hnn
 subst hm2
 have hMM:M=L.map ExV.dyv:=by
  rw[←hML,List.drop_zero,List.take_of_length_le (by omega)]
 simp(disch:=omega)only[go_sem]
 by_cases h1n:(1:Int)<n2
 rotate_left
 ·simp(disch:=omega)only[go_sem,h1n]
  refine qg [(0,120000000)] [.own 3 (qn DyV.cs M)] [.own 0 [.sl l.length (ql l),.v (.int .i64 i2),.v (.int .i64 h2)]] [.ag [.v (.int .i64 n2),.rf 0 (0*3) (n2*n2)]] rfl (by simp(disch:=omega)only[go_sem]) (by simp(disch:=omega)only[go_sem]) (by simp) (by simp) ⟨⟨hm M,Yk g1 (by omega) g3⟩,_,_,hi2,rfl⟩
 simp(disch:=omega)only[go_sem,h1n]
 refine qw (qV l hl i2 h2 hi2 2 (by omega)) ?_
 rintro r i3 h3 hi3 ⟨b,rfl⟩
 simp(disch:=omega)only[go_sem]
 cases b
 ·simp(disch:=omega)only[go_sem]
  refine qg [(0,120000000)] [.own 3 (qn DyV.cs M)] [.own 0 [.sl l.length (ql l),.v (.int .i64 i3),.v (.int .i64 h3)]] [.ag [.v (.int .i64 n2),.rf 0 (0*3) (n2*n2)]] rfl (by simp(disch:=omega)only[go_sem]) (by simp(disch:=omega)only[go_sem]) (by simp) (by simp) ⟨⟨hm M,Yk g1 (by omega) g3⟩,_,_,hi3,rfl⟩
 simp(disch:=omega)only[go_sem]
 refine qh (fun x:Nat×List DyV=>[(0,.pt 10000000 0),(2,.pt 5 0),(3,.v (.int .i64 n2)),(4,.pt 4 0),(5,.v (.int .i64 x.1))])
  (fun x=>[(3,.own 3 (qn DyV.cs x.2)),(4,.own 0 [.v (.int .i64 n2),.rf 3 0 (n2*n2)]),(5,.own 0 [.v (.int .i64 0),.v (.slice none 0 0)]),(10000000,.own 0 [.sl l.length (ql l),.v (.int .i64 i3),.v (.int .i64 h3)])])
  (fun x=>x.1≤n2∧x.2.length=n2*n2∧(∀d∈x.2,d.xs.length≤200)∧∀t,t<n2→x.2.getD t dy0=(L.getD t ex0).dyv) (fun x=>n2-x.1) (0,M) ⟨by simp,g2,g3,fun t ht=>?_⟩
  (Le.lst [(3,120000000),(4,60000000),(5,40000000)] _ _ rfl (by simp(disch:=omega)only[go_sem]) (by simp(disch:=omega)only[go_sem])) ?_
 ·have:n2≤n2*n2:=Nat.le_mul_of_pos_left n2 (by omega)
  rw[hMM,List.getD_eq_getElem?_getD,List.getElem?_map,List.getD_eq_getElem?_getD,List.getElem?_eq_getElem (by rw[hL.len];omega)];rfl
 rintro⟨j,D⟩ ⟨hj,hD,hD2,hD3⟩
 dsimp only at hj hD hD2 hD3 ⊢
 simp(disch:=omega)only[go_sem]
 refine qe (fun c1=>?_) (fun c1=>?_)
 ·have hnn:n2≤n2*n2:=Nat.le_mul_of_pos_left n2 (by omega)
  have hcut:=aLN (l:=D) (i:=j) (by omega)
  rw[hD3 j (by omega)]at hcut
  have hok:(L.getD j ex0).ok=true:=hL.ok _ (by rw[List.getD_eq_getElem?_getD,List.getElem?_eq_getElem (by rw[hL.len];omega)];exact List.getElem_mem _)
  have hst:∀y:ExV,(lim y.m).length≤200→(∀d∈D.set ((n2-1)*n2+j) y.dyv,d.xs.length≤200)∧∀t,t<n2→(D.set ((n2-1)*n2+j) y.dyv).getD t dy0=(L.getD t ex0).dyv:=fun y hy=>⟨fun d hd=>by
   rcases List.mem_or_eq_of_mem_set hd with hd|rfl
   ·exact hD2 d hd
   ·exact hy,fun t ht=>by
   have:n2≤(n2-1)*n2:=Nat.le_mul_of_pos_left n2 (by omega)
   rw[List.getD_eq_getElem?_getD,List.getElem?_set_ne (by omega),←List.getD_eq_getElem?_getD]
   exact hD3 t ht⟩
  have hidx:(n2-1)*n2+j<n2*n2:=qS (by omega) (by omega)
  have eidx:((n2:Int)-1)*n2+j=(((n2-1)*n2+j:Nat):Int):=by rw[Int.natCast_add,Int.natCast_mul];congr 2;omega
  have hset:=fun y:ExV=>aLK (L:=D) (i:=(n2-1)*n2+j) (s:=y.s) (xs:=lim y.m) (e:=y.e) (by omega)
  have hsl:∀y:ExV,(D.set ((n2-1)*n2+j) y.dyv).length=n2*n2:=fun y=>by rw[List.length_set];exact hD
  generalize (n2-1)*n2+j=p at*
  generalize L.getD j ex0=x at*
  have bx:=ai3 hok
  have ca:=ajD x x (bx.mono (by omega) (by omega)) (bx.mono (by omega) (by omega))
  have hl2:(lim (x.plus x).can.m).length≤200:=by
   have r:=zL hok
   have e:=apZ (K:=3000) (s:=(x.plus x).s) (m:=(x.plus x).m) (e:=(x.plus x).e) (s':=x.s) (m':=x.m) (e':=x.e+1) (KE (by omega) (by omega)) (by omega) (by
    have h1:=Qd (K:=3000) (x:=x) (y:=x) (by omega) (by omega)
    have h2:dv 3000 x.s x.m (x.e+1)=x.val 3000*2:=by
     unfold ExV.val dv
     rw[show(x.e+1+((3000:Nat):Int)).toNat=(x.e+((3000:Nat):Int)).toNat+1 by omega,Int.pow_succ,Int.mul_assoc]
    have h1':dv 3000 (x.plus x).s (x.plus x).m (x.plus x).e=x.val 3000+x.val 3000:=h1
    omega)
   have:(x.plus x).can.m=oM x.m:=e.2.1
   rw[this]
   have:=yy (ai5 x.m)
   omega
  generalize (x.plus x).can=y at*
  dsimp only[ExV.dyv]at hcut
  simp(disch:=omega)only[go_sem,c1]
  refine qq rfl [⟨0,[],[]⟩,⟨1,[],[]⟩,⟨2,[1],[]⟩,⟨3,[1],[]⟩,⟨4,[1],[]⟩,⟨5,[1],[]⟩,⟨6,[1],[]⟩,⟨7,[1],[]⟩,⟨8,[1],[]⟩,⟨9,[1],[]⟩,⟨10,[1,9],[]⟩,⟨11,[1],[]⟩,⟨12,[1],[]⟩,⟨13,[1,9,12],[]⟩,⟨14,[1,9,12],[]⟩,⟨15,[1,9,12,14],[]⟩,⟨16,[1,9,12],[]⟩,⟨17,[1,9,12],[]⟩,⟨18,[1],[]⟩,⟨19,[],[]⟩,⟨20,[],[]⟩] (by kernel_rfl) ?_
  simp(disch:=omega)only[go_sem,hcut]
  refine⟨by omega,by omega,by omega,by omega,?_⟩
  refine qa (ca) ?_
  simp(disch:=omega)only[go_sem]
  simp(disch:=omega)only[go_sem,eidx]
  rw[hset y]
  exact⟨by omega,by omega,qb (j+1,D.set p y.dyv) [] ⟨by omega,hsl y,(hst y hl2).1,(hst y hl2).2⟩ (by show n2-(j+1)<n2-j;omega) rfl (by simp(disch:=omega)only[go_sem];try omega) (by simp(disch:=omega)only[go_sem];rfl)⟩
 ·simp(disch:=omega)only[go_sem,c1]
  refine qg [(0,3)] [.own 3 (qn DyV.cs D)] [.own 0 [.sl l.length (ql l),.v (.int .i64 i3),.v (.int .i64 h3)]] [.ag [.v (.int .i64 n2),.rf 0 (0*3) (n2*n2)]] rfl (by simp(disch:=omega)only[go_sem]) (by simp(disch:=omega)only[go_sem]) (by simp) (by simp) ⟨⟨hm D,Yk (o:=0) (by omega) (by omega) hD2⟩,_,_,hi3,rfl⟩
end
end Go.Ab
namespace Go.Ab
open Go Go.Proofs
theorem Jq(l:List UInt8)(hl:l.length≤9223372036854775807):Con Tryz.prog 63 false [.sl l.length (ql l)] [] (fun r hs bs=>hs=[]∧bs=[]∧∃(n:Int) (L:List DyV),bd6 L∧r=.ag [.v (.int .i64 n),.sl L.length (qn DyV.cs L)]):=by
 refine Con.of_aw Tryz.func63 rfl Tryz.ntmps63 (by simp) (by simp) (by simp) (W.sound ?_)
 show @W Tryz.prog 6 ⟨_⟩ ⟨fun x σ=>@q6 _ _ _ ⟨_⟩ _ ⟨_⟩ x σ⟩ _ _
 simp(disch:=omega)only[go_sem]
 refine qY (aqA l hl) (by simp(disch:=omega)only[go_sem]) ?_
 rintro r hs ⟨rfl, -,⟨h,rfl⟩⟩
 refine⟨by simp(disch:=omega)only[go_sem],?_⟩
 simp(disch:=omega)only[go_sem]
 refine qw (Jo l hl 0 h (by omega)) ?_
 rintro r i1 h1 hi1 ⟨k,L,hL1,hL2,rfl⟩
 simp(disch:=omega)only[go_sem]
 exact qP (by simp(disch:=omega)only[go_sem]) ⟨rfl,rfl,k,L,⟨hL1,hL2⟩,rfl⟩
theorem aLQ{n:Nat}(h:1≤n)(A:Nat→Nat→Int):QI n A=jh (fun j=>sgI j*(A 0 j*QI (n-1) (JF A 0 j))) n:=by
 cases n with
 |zero=>omega
 |succ n=>rfl
theorem aPh{n:Nat}:eK 0 (gId n):=fun x hx=>by
 unfold gId gl at hx
 obtain⟨t,ht,rfl⟩:=List.mem_map.1 hx
 unfold idF;split<;>(show-((0:Nat):Int)≤0;omega)
set_option maxRecDepth 100000 in
set_option maxHeartbeats 4000000 in
theorem aBW(l:List UInt8)(hl:l.length≤9223372036854775807):Con Tryz.prog 12 true [.sl l.length (ql l)] [] (isA (.v (.bool true))):=by
 refine Con.of_w (rs:=[.tmp 2]) Tryz.func12 rfl Tryz.ntmps12 rfl ?_
 simp(disch:=omega)only[go_sem]
 refine qk (aC0) ?_
 simp(disch:=omega)only[go_sem]
 refine qY (Jq l hl) (by simp(disch:=omega)only[go_sem]) ?_
 rintro r hs ⟨rfl, -,⟨k,M,⟨a1,a2⟩,rfl⟩⟩
 refine⟨by simp[qM],?_⟩
 simp(disch:=omega)only[go_sem]
 have cA:=Ja k M a1 a2
 cases hA:Yl k M
 ·rw[hA]at cA
  refine qa (YU k M a1 a2 hA) ?_
  simp(disch:=omega)only[go_sem]
  refine qa (YT k M a1 a2 hA) ?_
  simp(disch:=omega)only[go_sem]
  refine qk (cA) ?_
  simp(disch:=omega)only[go_sem]
  refine qk (aqO) ?_
  simp(disch:=omega)only[go_sem]
  exact qx
 rw[hA]at cA
 obtain⟨n,L,rfl,rfl,hL⟩:=aEW hA
 rw[Qb,List.length_map]at cA ⊢
 refine qa (aee n L hL) ?_
 simp(disch:=omega)only[go_sem]
 refine qa (yZ n L hL) ?_
 simp(disch:=omega)only[go_sem]
 refine qk (cA) ?_
 simp(disch:=omega)only[go_sem]
 have oA:optM n (gN n (Zj n L)) (gT (Zj n L)):=adr hL.n1 hL.n4 zx
 have vA:(Zj n L).all ExV.fit=true→∀i j,i<n→j<n→mv (3000*(n-1)) (gT (Zj n L)) n i j=aDz n (mv 3000 L n) i j∧ -((3000*(n-1):Nat):Int)≤((gT (Zj n L)).getD (i*n+j) ex0).e:=fun hf i j hi hj=>by
  obtain⟨h1,h2⟩:=aDA (K:=3000) hL.len (hL.eK (by omega)) hi hj
  rw[(KZ (l:=Zj n L) hL.n1 hL.n4 zx hf).2.1]
  refine⟨?_,?_⟩
  ·unfold Zj
   rw[ao1 hi hj h2,h1]
  ·rw[ao7 (by unfold Zj;rw[zx];exact qS hi hj)]
   unfold Zj
   rw[aKU hi hj]
   exact bbi h2 (by omega)
 have od:=y6 (jv n L)
 have vd:(jv n L).fit=true→(jv n L).tel.val (3000*n)=QI n (mv 3000 L n):=fun h=>ap2 hL h
 generalize gN n (Zj n L)=NA at*
 generalize gT (Zj n L)=TA at*
 generalize (Zj n L).all ExV.fit=ok at*
 generalize (jv n L).tel=d at*
 generalize (jv n L).fit=fb at*
 refine qY (aed n n NA L TA hL.n1 hL.n4 (.inl ⟨rfl,hL⟩) oA) (by simp(disch:=omega)only[go_sem]) ?_
 rintro r hs ⟨rfl, -,NP,P,b1,oP,hP,rfl⟩
 refine⟨by simp[qM],?_⟩
 simp(disch:=omega)only[go_sem]
 refine qa (ajS n hL.n1 hL.n4) ?_
 simp(disch:=omega)only[go_sem]
 have oQ:(qL n (gId n) d).all ExV.fit=true→gN n (qL n (gId n) d)=n∧matV n (gT (qL n (gId n) d)):=fun hf=>by
  obtain⟨e1,e2,e3⟩:=KZ (l:=qL n (gId n) d) hL.n1 hL.n4 zx hf
  exact⟨e1,by rw[e2];exact e3⟩
 have vQ:(qL n (gId n) d).all ExV.fit=true→∀i j,i<n→j<n→mv (0+3000*n) (gT (qL n (gId n) d)) n i j=mv 0 (gId n) n i j*d.val (3000*n):=fun hf i j hi hj=>by
  rw[(KZ (l:=qL n (gId n) d) hL.n1 hL.n4 zx hf).2.1]
  have:=(zL od).1.1
  have:=hL.n1
  exact ao0 aPh (by omega) Yu hi hj
 have cQ:=YQ n (gId n) d (apx hL.n1 hL.n4) od
 generalize gN n (qL n (gId n) d)=NQ at*
 generalize gT (qL n (gId n) d)=TQ at*
 generalize (qL n (gId n) d).all ExV.fit=b2 at*
 refine qa (cQ) ?_
 simp(disch:=omega)only[go_sem]
 have h1n:=hL.n1
 have h4n:=hL.n4
 have hl16:=hL.l16
 cases fb
 ·rcases ok with _|_
  all_goals
   simp(disch:=omega)only[go_sem]
   refine qh (fun _:Unit=>[(3,.pt 3 0),(6,.pt 6 0),(14,.pt 4 0),(15,.v (.bool false)),(16,.v (.int .i64 0))])
    (fun _=>[(3,.own 0 [.v (.int .i64 n),.sl L.length (qn ExV.cs L)]),(6,.own 0 [.v (.bool d.s),.sl (lim d.m).length (qc (lim d.m)),.v (.int .i64 d.e)]),(4,.own 0 [.v (.bool false),.v (.slice none 0 0),.v (.int .i64 0)])]) (fun _=>True) (fun _=>0) () trivial
    (Le.lst [(3,50000000),(6,80000000),(4,160000000)] _ _ rfl (by simp(disch:=omega)only[go_sem]) (by simp(disch:=omega)only[go_sem])) ?_
   rintro _-
   simp(disch:=omega)only[go_sem]
   simp(disch:=omega)only[go_sem,decide_eq_true (show(0:Int)<(n:Int) by omega)]
   exact qx
 have vd:=vd rfl
 rcases ok with _|_
 rotate_left
 rcases b1 with _|_
 rotate_left
 rcases b2 with _|_
 rotate_left
 obtain⟨-,⟨hNA,gA⟩,gF,⟨hNP,gP⟩,hPe⟩:=hP rfl
 have hNA:=hNA.symm
 subst hNA
 have hNP:=hNP.symm
 subst hNP
 obtain⟨hNQ,gQ⟩:=oQ rfl
 have hNQ:=hNQ.symm
 subst hNQ
 have hPQ:P=TQ:=by
  refine aKv (K:=3000*n) (by omega) gP gQ fun i j hi hj=>?_
  have e1:mv (3000+3000*(n-1)) P n i j=arC n (mv 3000 L n) (aDz n (mv 3000 L n)) i j:=by
   rw[hPe,aBL (hL.eK (by omega)) (fun x hx=>?_) hL.len gA.len hi hj]
   ·exact yQ fun t ht=>by rw[(vA rfl t j ht hj).1]
   ·obtain⟨q,hq,rfl⟩:=List.getElem_of_mem hx
    have hq2:q<n*n:=by rw[←gA.len];exact hq
    have hmod:=Nat.mod_lt q (show 0<n by omega)
    have hdiv:q/n<n:=(Nat.div_lt_iff_lt_mul (by omega)).2 hq2
    have:=(vA rfl _ _ hdiv hmod).2
    rw[show q/n*n+q % n=q by rw[Nat.mul_comm];exact Nat.div_add_mod q n,List.getD_eq_getElem?_getD,List.getElem?_eq_getElem hq]at this
    exact this
  have e2:=vQ rfl i j hi hj
  rw[show 3000+3000*(n-1)=3000*n by omega]at e1
  rw[Nat.zero_add]at e2
  rw[e1,e2,aMJ h4n _ hi hj,aPg hi hj,vd]
  split<;>simp
 have cs:=adV n P TQ gP gQ
 rw[decide_eq_true hPQ]at cs
 simp(disch:=omega)only[go_sem]
 refine qk (cs) ?_
 simp(disch:=omega)only[go_sem]
 all_goals
  try simp(disch:=omega)only[go_sem]
  refine qh (fun x:Nat×ExV×Bool=>[(3,.pt 3 0),(6,.pt 6 0),(14,.pt 4 0),(15,.v (.bool x.2.2)),(16,.v (.int .i64 x.1))])
   (fun x=>[(3,.own 0 [.v (.int .i64 n),.sl L.length (qn ExV.cs L)]),(6,.own 0 [.v (.bool d.s),.sl (lim d.m).length (qc (lim d.m)),.v (.int .i64 d.e)]),(4,.own 0 [.v (.bool x.2.1.s),.sl (lim x.2.1.m).length (qc (lim x.2.1.m)),.v (.int .i64 x.2.1.e)])])
   (fun x=>x.1≤n∧x.2.1.ok=true∧(x.2.2=true→2≤n∧x.2.1.val (3000*n)=jh (fun j=>sgI j*(mv 3000 L n 0 j*QI (n-1) (JF (mv 3000 L n) 0 j))) x.1)) (fun x=>n-x.1) (0,ex0,decide ((1:Int)<n)) ⟨by simp,JI,fun h=>⟨by have:=of_decide_eq_true h;omega,ZU _⟩⟩
   ((Le.nilC 160000000 1 (zo:=0) (cs:=[.v (.bool false),.v (.slice none 0 0),.v (.int .i64 0)]) (by simp(disch:=omega)only[go_sem]) rfl).trans (Le.lst [(3,50000000),(6,80000000),(4,160000000)] _ _ rfl (by simp(disch:=omega)only[go_sem]) (by simp(disch:=omega)only[go_sem,ex0,qm,List.set_cons_succ,List.set_cons_zero]))) ?_
  rintro⟨q,s,g⟩ ⟨hq,hs,hv⟩
  dsimp only at hq hs hv ⊢
  simp(disch:=omega)only[go_sem]
  refine qe (fun c1=>?_) (fun c1=>?_)
  rotate_left
  ·have hqn:q=n:=by omega
   cases g
   ·simp(disch:=omega)only[go_sem,c1]
    exact qx
   ·obtain⟨h2,hv⟩:=hv rfl
    have hsd:s=d:=aEP (K:=3000*n) hs od (by have:=(zL hs).1;omega) (by have:=(zL od).1;omega) (by rw[hv,vd,hqn,aLQ h1n])
    have cs:=ZZ s d hs od
    rw[decide_eq_true hsd]at cs
    simp(disch:=omega)only[go_sem,c1]
    refine qk (cs) ?_
    simp(disch:=omega)only[go_sem]
    exact qx
  ·cases g
   ·simp(disch:=omega)only[go_sem,c1]
    exact qx
   obtain⟨h2,hv⟩:=hv rfl
   have cm:=YS n L 0 q hL h2 (by omega) (by omega)
   have hM:=aEV hL h2 (r:=0) (c:=q) (by omega) (by omega)
   have cd:=yZ (n-1) (mnR n L 0 q n) hM
   have oy:=y6 (jv (n-1) (mnR n L 0 q n))
   have vy:(jv (n-1) (mnR n L 0 q n)).fit=true→(jv (n-1) (mnR n L 0 q n)).tel.val (3000*(n-1))=QI (n-1) (JF (mv 3000 L n) 0 q):=fun hf=>by
    rw[ap2 hM hf]
    obtain⟨m,rfl⟩:∃m,n=m+1:=⟨n-1,by omega⟩
    exact Qo fun i j hi hj=>aKq (by omega) (by omega) hi hj
   have hcut:=zO (l:=L) (i:=q) (by rw[hL.len];have:=qS (n:=n) (i:=0) (j:=q) (by omega) (by omega);omega)
   have ox:=hL.ok (L.getD q ex0) (by rw[List.getD_eq_getElem?_getD,List.getElem?_eq_getElem (by rw[hL.len];have:=qS (n:=n) (i:=0) (j:=q) (by omega) (by omega);omega)];exact List.getElem_mem _)
   have vx:(L.getD q ex0).val 3000=mv 3000 L n 0 q:=by unfold mv;rw[Nat.zero_mul,Nat.zero_add]
   have hlq:q<L.length:=by rw[hL.len];have:=qS (n:=n) (i:=0) (j:=q) (by omega) (by omega);omega
   generalize (jv (n-1) (mnR n L 0 q n)).fit=is at*
   generalize (jv (n-1) (mnR n L 0 q n)).tel=y at*
   generalize mnR n L 0 q n=M at*
   generalize L.getD q ex0=x at*
   have key:∀e':ExV,e'.ok=true→(((y.times x).fit&&is)=true→e'.val (3000*n)=sgI q*(mv 3000 L n 0 q*QI (n-1) (JF (mv 3000 L n) 0 q)))→((s.plus e').fit&&((y.times x).fit&&is))=true→
     2≤n∧(s.plus e').tel.val (3000*n)=jh (fun j=>sgI j*(mv 3000 L n 0 j*QI (n-1) (JF (mv 3000 L n) 0 j))) (q+1):=fun e' oe he hf=>by
    rw[Bool.and_eq_true]at hf
    have r1:=(zL hs).1.1
    have r2:=(zL oe).1.1
    refine⟨h2,?_⟩
    rw[adi hf.1,YY (KE (by omega) (by omega)),Qd (by omega) (by omega),hv,he hf.2]
    rfl
   have vt:((y.times x).fit&&is)=true→(y.times x).tel.val (3000*n)=mv 3000 L n 0 q*QI (n-1) (JF (mv 3000 L n) 0 q):=fun hf=>by
    rw[Bool.and_eq_true]at hf
    have r1:=(zL oy).1.1
    have r2:=(zL ox).1.1
    have e1:=y4 (K:=3000*(n-1)) (K':=3000) (x:=y) (y:=x) (by omega) (by omega)
    rw[show 3000*(n-1)+3000=3000*n by omega]at e1
    rw[adi hf.1,YY (by show _≤y.e+x.e;omega),e1,vy hf.2,vx,Int.mul_comm]
   have ot:=y6 (y.times x)
   have ct:=aCZ y x is oy ox
   generalize (y.times x).tel=e at*
   generalize ((y.times x).fit&&is)=b at*
   simp(disch:=omega)only[go_sem,c1]
   refine qa (cm) ?_
   simp(disch:=omega)only[go_sem]
   refine qa (cd) ?_
   simp(disch:=omega)only[go_sem]
   refine qq rfl [⟨0,[],[]⟩,⟨1,[0],[]⟩,⟨2,[0],[]⟩,⟨3,[0,2],[]⟩,⟨4,[0],[]⟩,⟨5,[0],[]⟩,⟨6,[0,2,5],[]⟩,⟨7,[],[]⟩,⟨8,[],[]⟩,⟨9,[],[]⟩,⟨10,[],[]⟩,⟨11,[],[]⟩,⟨12,[],[]⟩] (by kernel_rfl) ?_
   simp(disch:=omega)only[go_sem,hcut]
   refine⟨by omega,by omega,?_⟩
   refine qa (ct) ?_
   simp(disch:=omega)only[go_sem]
   by_cases hodd:q % 2=1
   ·simp(disch:=omega)only[go_sem,decide_eq_true (show(q:Int) % 2=1 by omega)]
    refine qa (aqk e ot) ?_
    simp(disch:=omega)only[go_sem]
    refine qa (ae3 s e.neg b hs (aET ot)) ?_
    simp(disch:=omega)only[go_sem]
    have hk:=key e.neg (aET ot) (fun hf=>by rw[aoY,vt hf];unfold sgI;rw[if_pos hodd];omega)
    exact qb (q+1,(s.plus e.neg).tel,(s.plus e.neg).fit&&b) [] ⟨by omega,y6 _,hk⟩ (by show n-(q+1)<n-q;omega) rfl (by simp(disch:=omega)only[go_sem];try omega) (by simp(disch:=omega)only[go_sem])
   ·simp(disch:=omega)only[go_sem,decide_eq_false (show ¬(q:Int) % 2=1 by omega)]
    refine qa (ae3 s e b hs ot) ?_
    simp(disch:=omega)only[go_sem]
    have hk:=key e ot (fun hf=>by rw[vt hf];unfold sgI;rw[if_neg hodd];omega)
    exact qb (q+1,(s.plus e).tel,(s.plus e).fit&&b) [] ⟨by omega,y6 _,hk⟩ (by show n-(q+1)<n-q;omega) rfl (by simp(disch:=omega)only[go_sem];try omega) (by simp(disch:=omega)only[go_sem])
end Go.Ab
namespace Go.Proofs.YtcobffkepgogiaaGreatDoor
open Go.ChangeShapes Go.WideShapes Go.ChangeAt Go.RowKit Go.Ab
theorem own:ownKnob Tryz.prog.godebug=none:=by kernel_rfl
theorem apf:laidOutB Tryz.prog=true:=by kernel_rfl
theorem aol:Tryz.prog.globalNamed "math/bits.deBruijn64tab" =some 1:=by kernel_rfl
theorem aIQ:(Tryz.prog.globals[1]?).map (·.type)=some 262:=by kernel_rfl
theorem aIP:Tryz.prog.underlying 262=some (.array 64 5):=by kernel_rfl
theorem aIT:Tryz.prog.underlying 5=some (.int .u8):=by kernel_rfl
theorem aIU:Tryz.prog.cellsOf 5=1:=by kernel_rfl
theorem aIR:Tryz.prog.cellsOf 262=64:=by kernel_rfl
noncomputable def yz:List (String×DataW Unit):=[("math/bits.deBruijn32tab",Rows.laid_math_bits_deBruijn32tab),("math/bits.deBruijn64tab",Rows.laid_math_bits_deBruijn64tab)]
theorem aIS{W:World}(h:laidMetH Tryz.prog yz W):Gd W:=by
 have h':laidMet Tryz.prog yz W:=h
 have h2:laidMet Tryz.prog [("math/bits.deBruijn64tab",Lib.tabData .u8 (Lib.deBruijn64tab.map Int.ofNat))] W:=laidMet.tail h'
 have hT:=Lib.tabIs_of_head aol aIQ aIP aIT aIU aIR h2
 intro g l hg
 unfold glb at hg
 split at hg
 ·rename_i e
  subst e
  cases hg
  have hc:∀i,i<Lib.deBruijn64tab.length→W.cell? ⟨1,i,none⟩=some (.int .u8 ((Lib.deBruijn64tab.getD i 0:Nat):Int)):=fun i hi=>by
   have:=hT.cell aol i (by simpa using hi)
   rw[this]
   simp[List.getD,hi]
  exact⟨ae5 (hc 0 (by decide)),hc⟩
 ·cases hg
noncomputable def KT(os:Os):World:=
 let w0:=World.holding Tryz.prog os ⟨#[],#[],[]⟩
 {w0 with heap:=(w0.heap.modify 1 fun
   | .cells _ t frozen=>.cells (Lib.deBruijn64tab.map fun z=>Value.int .u8 (Int.ofNat z)).toArray t frozen
   |o=>o).modify 0 fun
   | .cells _ t frozen=>.cells (Lib.deBruijn32tab.map fun z=>Value.int .u8 (Int.ofNat z)).toArray t frozen
   |o=>o}
theorem Yr(os:Os)(args:Array Value):laidMetH Tryz.prog yz ((KT os).forCall (fun _ _=>0) ⟨#[],args,[]⟩).memory:=
 laidMetH_of_parts (laidMet_of_run' 8 (by kernel_rfl) (by kernel_rfl)) (by kernel_rfl)
end Go.Proofs.YtcobffkepgogiaaGreatDoor
