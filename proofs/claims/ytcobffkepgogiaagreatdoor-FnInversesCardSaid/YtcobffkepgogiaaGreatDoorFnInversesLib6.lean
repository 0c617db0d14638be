/- What the proof of this claim stands on: the walks of the functions and the plain laws, part 6. -/
import Derived.Test.YtcobffkepgogiaaGreatDoorFnInversesLib5
import Derived.Test.YtcobffkepgogiaaGreatDoorRows
import Derived.Test.YtcobffkepgogiaaGreatDoorCards
import Derived.Test.YtcobffkepgogiaaGreatDoorTie
import Derived.Handed
import Derived.ChangeSame
import Derived.JoinedOf
import Derived.RowKit
import Derived.WalkKit
import Derived.ProofKit
import Derived.OpenShut
import Derived.LaidLaws
import Derived.LaidHandle
import Derived.SevenTiedAt
import Derived.Stop.LaidErr
import Derived.Lib.LaidTab
set_option linter.unusedVariables false
set_option linter.unusedSimpArgs false
namespace Go.Ab
open Go Go.Proofs
/-! ### Matrices that were told,or not-/
def optM(n N:Nat)(T:List ExV):Prop:=(N=n∧matV n T)∨(N=0∧T=[])
theorem aec{n:Nat}{l:List ExV}(h1:1≤n)(h4:n≤4)(hl:l.length=n*n):optM n (gN n l) (gT l):=by
 cases hf:l.all ExV.fit
 ·exact .inr ⟨if_neg (by rw[hf];simp),if_neg (by rw[hf];simp)⟩
 ·obtain⟨e1,e2,e3⟩:=aet (l:=l) h1 h4 hl hf
  exact .inl ⟨e1,by rw[e2];exact e3⟩
def bcO(M:List DyV):Prop:=M.length≤16∧∀d∈M,d.xs.length≤200
theorem matV.lens{n:Nat}{L:List ExV}(h:matV n L):bcO (L.map ExV.dyv):=⟨by rw[List.length_map];exact h.l16,fun d hd=>by
 obtain⟨x,hx,rfl⟩:=List.mem_map.1 hd
 have:=(jH (h.ok x hx)).2.2.1
 show(lim x.m).length≤200
 omega⟩
theorem optM.lens{n N:Nat}{T:List ExV}(h:optM n N T):bcO (T.map ExV.dyv):=by
 rcases h with⟨-,h⟩|⟨-,rfl⟩
 ·exact h.lens
 ·exact⟨by simp,by simp⟩
theorem aem(M:List DyV):J5 ((0:Nat):Int) M=false:=by unfold J5;simp
theorem aM3(n N N':Nat)(T T':List ExV)(h1:1≤n)(h4:n≤4)(h:optM n N T)(h':optM n N' T'):Con Tryz.prog 20 false [.ag [.v (.int .i64 (N)),.sl (T).length (qm ExV.cs (T))],.ag [.v (.int .i64 (N')),.sl (T').length (qm ExV.cs (T'))]] []
  (fun r hs bs=>hs=[]∧bs=[]∧∃(N2:Nat) (T2:List ExV) (b:Bool),optM n N2 T2∧(b=true→(N=n∧matV n T)∧(N'=n∧matV n T')∧(yj n T T').all ExV.fit=true∧(N2=n∧matV n T2)∧T2=(yj n T T').map ExV.can)∧r=.tu [.ag [.v (.int .i64 (N2)),.sl (T2).length (qm ExV.cs (T2))],.v (.bool b)]):=by
 have l1:=h.lens
 have l2:=h'.lens
 have bad:af9 N (T.map ExV.dyv) N' (T'.map ExV.dyv)=false→Con Tryz.prog 20 false [.ag [.v (.int .i64 (N)),.sl (T).length (qm ExV.cs (T))],.ag [.v (.int .i64 (N')),.sl (T').length (qm ExV.cs (T'))]] [] (isA (.tu [.ag [.v (.int .i64 0),.sl 0 []],.v (.bool false)])):=fun hb=>by
  have c:=Xl N N' (T.map ExV.dyv) (T'.map ExV.dyv) l1.1 l1.2 l2.1 l2.2 hb
  rw[yf,yf,List.length_map,List.length_map]at c
  exact c
 have fin:∀{r:AV} {hs bs:List Ob},isA (.tu [.ag [.v (.int .i64 0),.sl 0 []],.v (.bool false)]) r hs bs→hs=[]∧bs=[]∧∃(N2:Nat) (T2:List ExV) (b:Bool),optM n N2 T2∧(b=true→(N=n∧matV n T)∧(N'=n∧matV n T')∧(yj n T T').all ExV.fit=true∧(N2=n∧matV n T2)∧T2=(yj n T T').map ExV.can)∧r=.tu [.ag [.v (.int .i64 (N2)),.sl (T2).length (qm ExV.cs (T2))],.v (.bool b)]:=
  fun⟨a,b,c⟩=>⟨b,c,0,[],false,.inr ⟨rfl,rfl⟩,(fun h=>by cases h),a⟩
 rcases h with⟨rfl,hT⟩|⟨rfl,rfl⟩
 ·rcases h' with⟨rfl,hT'⟩|⟨rfl,rfl⟩
  ·refine(ae9 _ T T' hT hT').mono fun r hs bs ⟨a,b,c⟩=>⟨b,c,_,_,_,aec (l:=yj _ T T') h1 h4 zp,fun hf=>?_,a⟩
   obtain⟨e1,e2,e3⟩:=aet (l:=yj _ T T') h1 h4 zp hf
   exact⟨⟨rfl,hT⟩,⟨rfl,hT'⟩,hf,⟨e1,by rw[e2];exact e3⟩,e2⟩
  ·exact(bad (by unfold af9;rw[aem,Bool.false_and,Bool.and_false])).mono fun r hs bs h=>fin h
 ·exact(bad (by unfold af9;rw[aem,Bool.false_and])).mono fun r hs bs h=>fin h
theorem ae5(n N N':Nat)(T T':List ExV)(h1:1≤n)(h4:n≤4)(h:optM n N T)(h':optM n N' T'):Con Tryz.prog 50 false [.ag [.v (.int .i64 (N)),.sl (T).length (qm ExV.cs (T))],.ag [.v (.int .i64 (N')),.sl (T').length (qm ExV.cs (T'))]] []
  (fun r hs bs=>hs=[]∧bs=[]∧∃(N2:Nat) (T2:List ExV) (b:Bool),optM n N2 T2∧(b=true→(N=n∧matV n T)∧(N'=n∧matV n T')∧(qZ n T T').all ExV.fit=true∧(N2=n∧matV n T2)∧T2=(qZ n T T').map ExV.can)∧r=.tu [.ag [.v (.int .i64 (N2)),.sl (T2).length (qm ExV.cs (T2))],.v (.bool b)]):=by
 have l1:=h.lens
 have l2:=h'.lens
 have bad:af9 N (T.map ExV.dyv) N' (T'.map ExV.dyv)=false→Con Tryz.prog 50 false [.ag [.v (.int .i64 (N)),.sl (T).length (qm ExV.cs (T))],.ag [.v (.int .i64 (N')),.sl (T').length (qm ExV.cs (T'))]] [] (isA (.tu [.ag [.v (.int .i64 0),.sl 0 []],.v (.bool false)])):=fun hb=>by
  have c:=Xj N N' (T.map ExV.dyv) (T'.map ExV.dyv) l1.1 l1.2 l2.1 l2.2 hb
  rw[yf,yf,List.length_map,List.length_map]at c
  exact c
 have fin:∀{r:AV} {hs bs:List Ob},isA (.tu [.ag [.v (.int .i64 0),.sl 0 []],.v (.bool false)]) r hs bs→hs=[]∧bs=[]∧∃(N2:Nat) (T2:List ExV) (b:Bool),optM n N2 T2∧(b=true→(N=n∧matV n T)∧(N'=n∧matV n T')∧(qZ n T T').all ExV.fit=true∧(N2=n∧matV n T2)∧T2=(qZ n T T').map ExV.can)∧r=.tu [.ag [.v (.int .i64 (N2)),.sl (T2).length (qm ExV.cs (T2))],.v (.bool b)]:=
  fun⟨a,b,c⟩=>⟨b,c,0,[],false,.inr ⟨rfl,rfl⟩,(fun h=>by cases h),a⟩
 rcases h with⟨rfl,hT⟩|⟨rfl,rfl⟩
 ·rcases h' with⟨rfl,hT'⟩|⟨rfl,rfl⟩
  ·refine(ae4 _ T T' hT hT').mono fun r hs bs ⟨a,b,c⟩=>⟨b,c,_,_,_,aec (l:=qZ _ T T') h1 h4 zp,fun hf=>?_,a⟩
   obtain⟨e1,e2,e3⟩:=aet (l:=qZ _ T T') h1 h4 zp hf
   exact⟨⟨rfl,hT⟩,⟨rfl,hT'⟩,hf,⟨e1,by rw[e2];exact e3⟩,e2⟩
  ·exact(bad (by unfold af9;rw[aem,Bool.false_and,Bool.and_false])).mono fun r hs bs h=>fin h
 ·exact(bad (by unfold af9;rw[aem,Bool.false_and])).mono fun r hs bs h=>fin h
theorem ae8(n N N':Nat)(T T':List ExV)(h1:1≤n)(h4:n≤4)(h:optM n N T)(h':optM n N' T'):Con Tryz.prog 17 false [.ag [.v (.int .i64 (N)),.sl (T).length (qm ExV.cs (T))],.ag [.v (.int .i64 (N')),.sl (T').length (qm ExV.cs (T'))]] []
  (fun r hs bs=>hs=[]∧bs=[]∧∃(N2:Nat) (T2:List ExV) (b:Bool),optM n N2 T2∧(b=true→(N=n∧matV n T)∧(N'=n∧matV n T')∧(qM n T T').all ExV.fit=true∧(N2=n∧matV n T2)∧T2=(qM n T T').map ExV.can)∧r=.tu [.ag [.v (.int .i64 (N2)),.sl (T2).length (qm ExV.cs (T2))],.v (.bool b)]):=by
 have l1:=h.lens
 have l2:=h'.lens
 have bad:af9 N (T.map ExV.dyv) N' (T'.map ExV.dyv)=false→Con Tryz.prog 17 false [.ag [.v (.int .i64 (N)),.sl (T).length (qm ExV.cs (T))],.ag [.v (.int .i64 (N')),.sl (T').length (qm ExV.cs (T'))]] [] (isA (.tu [.ag [.v (.int .i64 0),.sl 0 []],.v (.bool false)])):=fun hb=>by
  have c:=Xk N N' (T.map ExV.dyv) (T'.map ExV.dyv) l1.1 l1.2 l2.1 l2.2 hb
  rw[yf,yf,List.length_map,List.length_map]at c
  exact c
 have fin:∀{r:AV} {hs bs:List Ob},isA (.tu [.ag [.v (.int .i64 0),.sl 0 []],.v (.bool false)]) r hs bs→hs=[]∧bs=[]∧∃(N2:Nat) (T2:List ExV) (b:Bool),optM n N2 T2∧(b=true→(N=n∧matV n T)∧(N'=n∧matV n T')∧(qM n T T').all ExV.fit=true∧(N2=n∧matV n T2)∧T2=(qM n T T').map ExV.can)∧r=.tu [.ag [.v (.int .i64 (N2)),.sl (T2).length (qm ExV.cs (T2))],.v (.bool b)]:=
  fun⟨a,b,c⟩=>⟨b,c,0,[],false,.inr ⟨rfl,rfl⟩,(fun h=>by cases h),a⟩
 rcases h with⟨rfl,hT⟩|⟨rfl,rfl⟩
 ·rcases h' with⟨rfl,hT'⟩|⟨rfl,rfl⟩
  ·refine(ae7 _ T T' hT hT').mono fun r hs bs ⟨a,b,c⟩=>⟨b,c,_,_,_,aec (l:=qM _ T T') h1 h4 zp,fun hf=>?_,a⟩
   obtain⟨e1,e2,e3⟩:=aet (l:=qM _ T T') h1 h4 zp hf
   exact⟨⟨rfl,hT⟩,⟨rfl,hT'⟩,hf,⟨e1,by rw[e2];exact e3⟩,e2⟩
  ·exact(bad (by unfold af9;rw[aem,Bool.false_and,Bool.and_false])).mono fun r hs bs h=>fin h
 ·exact(bad (by unfold af9;rw[aem,Bool.false_and])).mono fun r hs bs h=>fin h
end Go.Ab
namespace Go.Ab
/-! ### Determinants of integers-/
def sgI(k:Nat):Int:=if k % 2=1 then-1 else 1
def skp(r i:Nat):Nat:=if i<r then i else i+1
def aek(A:Nat→Nat→Int)(r c:Nat):Nat→Nat→Int:=fun i j=>A (skp r i) (skp c j)
def jg:Nat→(Nat→Nat→Int)→Int
 |0,_=>1
 |n+1,A=>qx (fun j=>sgI j*(A 0 j*jg n (aek A 0 j))) (n+1)
theorem asB(A:Nat→Nat→Int):jg 1 A=A 0 0:=by
 simp[jg,qx,sgI]
theorem ak9(A:Nat→Nat→Int):jg 2 A=A 0 0*A 1 1-A 0 1*A 1 0:=by
 simp[jg,qx,sgI,aek,skp];omega
theorem ak8(A:Nat→Nat→Int):jg 3 A=A 0 0*(A 1 1*A 2 2-A 1 2*A 2 1)-A 0 1*(A 1 0*A 2 2-A 1 2*A 2 0)+A 0 2*(A 1 0*A 2 1-A 1 1*A 2 0):=by
 rw[jg]
 simp only[ak9,qx,sgI,aek,skp]
 simp
 omega
theorem aGi(A:Nat→Nat→Int):jg 4 A=(A 0 0*A 1 1-A 0 1*A 1 0)*(A 2 2*A 3 3-A 2 3*A 3 2)-(A 0 0*A 1 2-A 0 2*A 1 0)*(A 2 1*A 3 3-A 2 3*A 3 1)
  +(A 0 0*A 1 3-A 0 3*A 1 0)*(A 2 1*A 3 2-A 2 2*A 3 1)+(A 0 1*A 1 2-A 0 2*A 1 1)*(A 2 0*A 3 3-A 2 3*A 3 0)
  -(A 0 1*A 1 3-A 0 3*A 1 1)*(A 2 0*A 3 2-A 2 2*A 3 0)+(A 0 2*A 1 3-A 0 3*A 1 2)*(A 2 0*A 3 1-A 2 1*A 3 0):=by
 rw[jg]
 simp only[ak8,qx,sgI,aek,skp]
 simp
 grind
end Go.Ab
namespace Go.Ab
theorem aDQ{n:Nat}(hn:n≤4)(A:Nat→Nat→Int):jg n (fun i j=>A j i)=jg n A:=by
 rcases(show n=0∨n=1∨n=2∨n=3∨n=4 by omega)with rfl|rfl|rfl|rfl|rfl
 ·rfl
 ·rw[asB,asB]
 ·rw[ak9,ak9];grind
 ·rw[ak8,ak8];grind
 ·rw[aGi,aGi];grind
theorem jA:∀{n:Nat} {A B:Nat→Nat→Int},(∀i j,i<n→j<n→A i j=B i j)→jg n A=jg n B
 |0,_,_,_=>rfl
 |n+1,A,B,h=>by
  rw[jg,jg]
  refine qD fun j hj=>?_
  rw[h 0 j (by omega) hj,jA (n:=n) (A:=aek A 0 j) (B:=aek B 0 j) fun i k hi hk=>?_]
  unfold aek skp
  exact h _ _ (by split<;>omega) (by split<;>omega)
def m2(A:Nat→Nat→Int)(r s c d:Nat):Int:=A r c*A s d-A r d*A s c
theorem aaK(A:Nat→Nat→Int):jg 4 A=m2 A 0 1 0 1*m2 A 2 3 2 3-m2 A 0 1 0 2*m2 A 2 3 1 3+m2 A 0 1 0 3*m2 A 2 3 1 2+m2 A 0 1 1 2*m2 A 2 3 0 3-m2 A 0 1 1 3*m2 A 2 3 0 2+m2 A 0 1 2 3*m2 A 2 3 0 1:=aGi A
def ji(n:Nat)(A B:Nat→Nat→Int):Nat→Nat→Int:=fun i j=>qx (fun t=>A i t*B t j) n
theorem bcP(A B:Nat→Nat→Int)(i j:Nat):ji 4 A B i j=A i 0*B 0 j+A i 1*B 1 j+A i 2*B 2 j+A i 3*B 3 j:=by
 simp[ji,qx]
theorem bcQ(A B:Nat→Nat→Int)(i j:Nat):ji 3 A B i j=A i 0*B 0 j+A i 1*B 1 j+A i 2*B 2 j:=by
 simp[ji,qx]
theorem bcR(A B:Nat→Nat→Int)(i j:Nat):ji 2 A B i j=A i 0*B 0 j+A i 1*B 1 j:=by
 simp[ji,qx]
theorem bcS(A B:Nat→Nat→Int)(i j:Nat):ji 1 A B i j=A i 0*B 0 j:=by
 simp[ji,qx]
theorem aQa(A B:Nat→Nat→Int)(r s c d:Nat):m2 (ji 4 A B) r s c d=m2 A r s 0 1*m2 B 0 1 c d+m2 A r s 0 2*m2 B 0 2 c d+m2 A r s 0 3*m2 B 0 3 c d+m2 A r s 1 2*m2 B 1 2 c d+m2 A r s 1 3*m2 B 1 3 c d+m2 A r s 2 3*m2 B 2 3 c d:=by
 simp only[m2,bcP]
 grind
def q4(B:Nat→Nat→Int)(p q r s:Nat):Int:=m2 B p q 0 1*m2 B r s 2 3-m2 B p q 0 2*m2 B r s 1 3+m2 B p q 0 3*m2 B r s 1 2+m2 B p q 1 2*m2 B r s 0 3-m2 B p q 1 3*m2 B r s 0 2+m2 B p q 2 3*m2 B r s 0 1
theorem Qt(B:Nat→Nat→Int)(p q s:Nat):q4 B p q p s=0:=by unfold q4 m2;grind
theorem aCe(B:Nat→Nat→Int)(p q r:Nat):q4 B p q r p=0:=by unfold q4 m2;grind
theorem aCd(B:Nat→Nat→Int)(p q s:Nat):q4 B p q q s=0:=by unfold q4 m2;grind
theorem aac(B:Nat→Nat→Int)(p q r:Nat):q4 B p q r q=0:=by unfold q4 m2;grind
theorem be5(B:Nat→Nat→Int):q4 B 0 1 2 3=jg 4 B:=(aaK B).symm
theorem be4(B:Nat→Nat→Int):q4 B 0 2 1 3= -jg 4 B:=by rw[aaK];unfold q4 m2;grind
theorem be3(B:Nat→Nat→Int):q4 B 0 3 1 2=jg 4 B:=by rw[aaK];unfold q4 m2;grind
theorem be2(B:Nat→Nat→Int):q4 B 1 2 0 3=jg 4 B:=by rw[aaK];unfold q4 m2;grind
theorem be1(B:Nat→Nat→Int):q4 B 1 3 0 2= -jg 4 B:=by rw[aaK];unfold q4 m2;grind
theorem be0(B:Nat→Nat→Int):q4 B 2 3 0 1=jg 4 B:=by rw[aaK];unfold q4 m2;grind
theorem aq3(A B:Nat→Nat→Int):jg 4 (ji 4 A B)=m2 A 0 1 0 1*m2 A 2 3 0 1*q4 B 0 1 0 1+m2 A 0 1 0 1*m2 A 2 3 0 2*q4 B 0 1 0 2+m2 A 0 1 0 1*m2 A 2 3 0 3*q4 B 0 1 0 3+m2 A 0 1 0 1*m2 A 2 3 1 2*q4 B 0 1 1 2+m2 A 0 1 0 1*m2 A 2 3 1 3*q4 B 0 1 1 3+m2 A 0 1 0 1*m2 A 2 3 2 3*q4 B 0 1 2 3+m2 A 0 1 0 2*m2 A 2 3 0 1*q4 B 0 2 0 1+m2 A 0 1 0 2*m2 A 2 3 0 2*q4 B 0 2 0 2+m2 A 0 1 0 2*m2 A 2 3 0 3*q4 B 0 2 0 3+m2 A 0 1 0 2*m2 A 2 3 1 2*q4 B 0 2 1 2+m2 A 0 1 0 2*m2 A 2 3 1 3*q4 B 0 2 1 3+m2 A 0 1 0 2*m2 A 2 3 2 3*q4 B 0 2 2 3+m2 A 0 1 0 3*m2 A 2 3 0 1*q4 B 0 3 0 1+m2 A 0 1 0 3*m2 A 2 3 0 2*q4 B 0 3 0 2+m2 A 0 1 0 3*m2 A 2 3 0 3*q4 B 0 3 0 3+m2 A 0 1 0 3*m2 A 2 3 1 2*q4 B 0 3 1 2+m2 A 0 1 0 3*m2 A 2 3 1 3*q4 B 0 3 1 3+m2 A 0 1 0 3*m2 A 2 3 2 3*q4 B 0 3 2 3+m2 A 0 1 1 2*m2 A 2 3 0 1*q4 B 1 2 0 1+m2 A 0 1 1 2*m2 A 2 3 0 2*q4 B 1 2 0 2+m2 A 0 1 1 2*m2 A 2 3 0 3*q4 B 1 2 0 3+m2 A 0 1 1 2*m2 A 2 3 1 2*q4 B 1 2 1 2+m2 A 0 1 1 2*m2 A 2 3 1 3*q4 B 1 2 1 3+m2 A 0 1 1 2*m2 A 2 3 2 3*q4 B 1 2 2 3+m2 A 0 1 1 3*m2 A 2 3 0 1*q4 B 1 3 0 1+m2 A 0 1 1 3*m2 A 2 3 0 2*q4 B 1 3 0 2+m2 A 0 1 1 3*m2 A 2 3 0 3*q4 B 1 3 0 3+m2 A 0 1 1 3*m2 A 2 3 1 2*q4 B 1 3 1 2+m2 A 0 1 1 3*m2 A 2 3 1 3*q4 B 1 3 1 3+m2 A 0 1 1 3*m2 A 2 3 2 3*q4 B 1 3 2 3+m2 A 0 1 2 3*m2 A 2 3 0 1*q4 B 2 3 0 1+m2 A 0 1 2 3*m2 A 2 3 0 2*q4 B 2 3 0 2+m2 A 0 1 2 3*m2 A 2 3 0 3*q4 B 2 3 0 3+m2 A 0 1 2 3*m2 A 2 3 1 2*q4 B 2 3 1 2+m2 A 0 1 2 3*m2 A 2 3 1 3*q4 B 2 3 1 3+m2 A 0 1 2 3*m2 A 2 3 2 3*q4 B 2 3 2 3:=by
 rw[aaK]
 simp only[aQa]
 simp only[q4]
 grind
theorem aDS(A B:Nat→Nat→Int):jg 4 (ji 4 A B)=jg 4 A*jg 4 B:=by
 rw[aq3]
 rw[Qt B 0 1 1,Qt B 0 1 2,Qt B 0 1 3,aCd B 0 1 2,aCd B 0 1 3,Qt B 0 2 1,Qt B 0 2 2,Qt B 0 2 3,aac B 0 2 1,aCd B 0 2 3,Qt B 0 3 1,Qt B 0 3 2,Qt B 0 3 3,aac B 0 3 1,aac B 0 3 2,aCe B 1 2 0,aac B 1 2 0,Qt B 1 2 2,Qt B 1 2 3,aCd B 1 2 3,aCe B 1 3 0,aac B 1 3 0,Qt B 1 3 2,Qt B 1 3 3,aac B 1 3 2,aCe B 2 3 0,aac B 2 3 0,aCe B 2 3 1,aac B 2 3 1,Qt B 2 3 3]
 rw[be5,be4,be3,be2,be1,be0,aaK A]
 grind
theorem Jp{n:Nat}(hn:n≤4)(A B:Nat→Nat→Int):jg n (ji n A B)=jg n A*jg n B:=by
 rcases(show n=0∨n=1∨n=2∨n=3∨n=4 by omega)with rfl|rfl|rfl|rfl|rfl
 ·rfl
 ·rw[asB,asB,asB,bcS]
 ·rw[ak9,ak9,ak9];simp only[bcR];grind
 ·rw[ak8,ak8,ak8];simp only[bcQ];grind
 ·exact aDS A B
end Go.Ab
namespace Go.Ab
def aED(n:Nat)(A:Nat→Nat→Int)(k j:Nat):Int:=sgI (k+j)*jg (n-1) (aek A j k)
theorem ask{n:Nat}(hn:n≤4)(A:Nat→Nat→Int){i j:Nat}(hi:i<n)(hj:j<n):ji n A (aED n A) i j=if i=j then jg n A else 0:=by
 rcases(show n=1∨n=2∨n=3∨n=4 by omega)with rfl|rfl|rfl|rfl
 ·obtain rfl:i=0:=by omega
  obtain rfl:j=0:=by omega
  rw[bcS,asB,if_pos rfl]
  simp[aED,sgI,jg]
 ·simp only[bcR,aED,ak9,show 2-1=1 from rfl,asB]
  rcases(show i=0∨i=1 by omega)with rfl|rfl<;>rcases(show j=0∨j=1 by omega)with rfl|rfl<;>(simp[sgI,aek,skp];try grind)
 ·simp only[bcQ,aED,ak8,show 3-1=2 from rfl,ak9]
  rcases(show i=0∨i=1∨i=2 by omega)with rfl|rfl|rfl<;>rcases(show j=0∨j=1∨j=2 by omega)with rfl|rfl|rfl<;>(simp[sgI,aek,skp];try grind)
 ·simp only[bcP,aED,aGi,show 4-1=3 from rfl,ak8]
  rcases(show i=0∨i=1∨i=2∨i=3 by omega)with rfl|rfl|rfl|rfl<;>rcases(show j=0∨j=1∨j=2∨j=3 by omega)with rfl|rfl|rfl|rfl<;>(simp[sgI,aek,skp];try grind)
end Go.Ab
namespace Go.Ab
open Go Go.Proofs
/-! ### What determinants are worth-/
theorem ase{l m:List ExV}{t:Nat}:(l++m).getD t ex0=if t<l.length then l.getD t ex0 else m.getD (t-l.length) ex0:=by
 rw[List.getD_eq_getElem?_getD,List.getElem?_append]
 split<;>rw[List.getD_eq_getElem?_getD]
theorem aej{n:Nat}{l:List ExV}{r c i:Nat}(hi:i≠r):∀j t,t<(mnC n l r c i j).length→(mnC n l r c i j).getD t ex0=l.getD (i*n+skp c t) ex0
 |0,t,h=>by simp[mnC]at h
 |j+1,t,h=>by
  have hl:=ZE (n:=n) (l:=l) (r:=r) (c:=c) (i:=i) j
  rw[if_neg hi]at hl
  rw[mnC]at h ⊢
  by_cases hc:j=c
  ·rw[if_neg (fun h=>h.2 hc)]at h ⊢
   exact aej hi j t h
  ·rw[if_pos ⟨hi,hc⟩]at h ⊢
   rw[ase]
   by_cases ht:t<(mnC n l r c i j).length
   ·rw[if_pos ht,aej hi j t ht]
   ·rw[if_neg ht]
    rw[List.length_append,List.length_singleton]at h
    have e:t=(mnC n l r c i j).length:=by omega
    have hs:skp c t=j:=by unfold skp;split at hl<;>split<;>omega
    rw[hs,e,Nat.sub_self];rfl
theorem ap5{n:Nat}{l:List ExV}{r c:Nat}(hc:c<n):∀k i j,i<(if r<k then k-1 else k)→j<n-1→(mnR n l r c k).getD (i*(n-1)+j) ex0=l.getD (skp r i*n+skp c j) ex0
 |0,i,j,h,_=>by simp at h
 |k+1,i,j,h,hj=>by
  have hl:=yg (n:=n) (l:=l) (r:=r) (c:=c) hc k
  rw[mnR,ase]
  by_cases ht:i<(if r<k then k-1 else k)
  ·have:i*(n-1)+j<(if r<k then k-1 else k)*(n-1):=by
    have:=Nat.mul_le_mul_right (n-1) (show i+1≤(if r<k then k-1 else k) by omega)
    rw[Nat.succ_mul]at this
    omega
   rw[if_pos (by rw[hl];exact this)]
   exact ap5 hc k i j ht hj
  ·have hk:k≠r:=by
    intro e;subst e
    rw[if_pos (by omega)]at h
    rw[if_neg (by omega)]at ht
    omega
   have e:i=(if r<k then k-1 else k):=by split at h<;>split at ht<;>split<;>omega
   have hs:skp r i=k:=by unfold skp;split at e<;>split<;>omega
   rw[←e]at hl
   rw[if_neg (by rw[hl];omega),hl,Nat.add_sub_cancel_left,hs]
   have h2:=ZE (n:=n) (l:=l) (r:=r) (c:=c) (i:=k) n
   rw[if_neg hk,if_pos hc]at h2
   exact aej hk n j (by omega)
theorem aP3{K n:Nat}{l:List ExV}{r c i j:Nat}(hr:r<n+1)(hc:c<n+1)(hi:i<n)(hj:j<n):mv K (mnR (n+1) l r c (n+1)) n i j=aek (mv K l (n+1)) r c i j:=by
 unfold mv aek
 have:=ap5 (n:=n+1) (l:=l) (r:=r) hc (n+1) i j (by rw[if_pos hr];omega) (by omega)
 rw[show n+1-1=n from rfl]at this
 rw[this]
theorem aP8{K n:Nat}{l:List ExV}{r c:Nat}(hl:l.length=n*n)(h:eK K l):eK K (mnR n l r c n):=fun x hx=>h x (QX hl n (Nat.le_refl n) x hx)
theorem apv{K k:Nat}{x:ExV}:(x.sgn k).val K=sgI k*x.val K:=by
 unfold ExV.sgn sgI
 split
 ·rw[ap1];omega
 ·omega
theorem aO8{k:Nat}{x:ExV}:(x.sgn k).e=x.e:=by unfold ExV.sgn;split<;>rfl
theorem Y7{K:Nat}:∀(n:Nat) (l:List ExV),l.length=n*n→eK K l→(jE n l).val (K*n)=jg n (mv K l n)∧ -((K*n:Nat):Int)≤(jE n l).e
 |0,l,_,_=>by
  refine⟨?_,by show-((0:Nat):Int)≤0;omega⟩
  show dv 0 false 1 0=1
  decide+kernel
 |n+1,l,hl,hK=>by
  have hf:∀k,k≤n+1→((List.range k).foldl (fun s j=>s.plus (((l.getD (0*(n+1)+j) ex0).times (jE n (mnR (n+1) l 0 j (n+1)))).sgn j)) ex0).val (K*(n+1))=qx (fun j=>sgI j*(mv K l (n+1) 0 j*jg n (aek (mv K l (n+1)) 0 j))) k∧ -((K*(n+1):Nat):Int)≤((List.range k).foldl (fun s j=>s.plus (((l.getD (0*(n+1)+j) ex0).times (jE n (mnR (n+1) l 0 j (n+1)))).sgn j)) ex0).e:=by
   intro k
   induction k with
   |zero=>exact fun _=>⟨Jm _,by show-((K*(n+1):Nat):Int)≤0;omega⟩
   |succ k ih=>
    intro hk
    obtain⟨h1,h2⟩:=ih (by omega)
    obtain⟨h3,h4⟩:=Y7 n (mnR (n+1) l 0 k (n+1)) (by rw[yg (by omega),if_pos (by omega)];rfl) (aP8 hl hK)
    have h5:=QF hK (i:=0*(n+1)+k) (by rw[hl];exact qQ (by omega) hk)
    rw[List.range_succ,List.foldl_append,List.foldl_cons,List.foldl_nil,qx]
    have h6: -((K*(n+1):Nat):Int)≤(((l.getD (0*(n+1)+k) ex0).times (jE n (mnR (n+1) l 0 k (n+1)))).sgn k).e:=by
     rw[aO8,Nat.mul_succ]
     show _≤(l.getD (0*(n+1)+k) ex0).e+(jE n (mnR (n+1) l 0 k (n+1))).e
     omega
    refine⟨?_,aae h2 h6⟩
    rw[Qu h2 h6,h1,apv,Nat.mul_succ,Nat.add_comm (K*n) K,ZM h5 h4,h3,jA (n:=n) fun i j hi hj=>aP3 (by omega) (by omega) hi hj]
    rfl
  exact hf (n+1) (Nat.le_refl _)
end Go.Ab
namespace Go.Ab
open Go Go.Proofs
/-! ### Turned matrices-/
def bfo(n:Nat)(l:List ExV):List ExV:=gl n (fun i j=>l.getD (j*n+i) ex0) (n*n)
end Go.Ab
namespace Go.Ab
open Go Go.Proofs
/-! ### Adjugates and minors-/
def asl(n:Nat)(l:List ExV)(a b:Nat):ExV:=(jE (n-1) (mnR n l b a n)).sgn (b+a)
def afS(n:Nat)(l:List ExV):List ExV:=gl n (asl n l) (n*n)
theorem aef{n:Nat}{l:List ExV}{r c:Nat}(hr:r<n)(hc:c<n):(mnR n l r c n).length=(n-1)*(n-1):=by rw[yg hc,if_pos hr]
theorem aP9{n:Nat}{l:List ExV}{lo hi:Int}{r c:Nat}(hl:l.length=n*n)(hb:gbd lo hi l):gbd lo hi (mnR n l r c n):=fun x hx=>hb x (QX hl n (Nat.le_refl n) x hx)
theorem arH(n:Nat)(l:List ExV)(a b:Nat)(hn:n≤4)(ha:a<n)(hb:b<n)(hl:l.length=n*n)(hd:gbd (-10000) 10000 l):
  Con Tryz.prog 198 false [.v (.int .i64 a),.v (.int .i64 b),.fp [.v (.int .i64 n),.sl l.length (qm ExV.cs l)] 0] [] (isA (.ag [.v (.bool (asl n l a b).s),.sl (lim (asl n l a b).m).length (qc (lim (asl n l a b).m)),.v (.int .i64 (asl n l a b).e)])):=by
 refine Con.frzA ?_
 have cm:=aaP n l b a (by omega) hl hb ha
 have cd:=ae1 (n-1) (mnR n l b a n) (by omega) (aef hb ha) (aP9 hl hd)
 rw[show((n:Int)-1)=((n-1:Nat):Int) by omega]at cm
 unfold asl
 generalize jE (n-1) (mnR n l b a n)=y at*
 generalize mnR n l b a n=M at*
 have cs:=Yf y (b+a) (by omega)
 rw[Int.natCast_add]at cs
 generalize y.sgn (b+a)=z at*
 refine Con.of_w (rs:=[.cell 5 118]) Tryz.func198 rfl Tryz.ntmps198 rfl ?_
 simp(disch:=omega)only[go_sem]
 refine qa (cm) ?_
 simp(disch:=omega)only[go_sem]
 refine qa (cd) ?_
 simp(disch:=omega)only[go_sem]
 refine qa (cs) ?_
 simp(disch:=omega)only[go_sem]
 exact qh
theorem aD6(n:Nat)(l:List ExV)(hn:n≤4)(hl:l.length=n*n)(hd:gbd (-10000) 10000 l):Con Tryz.prog 118 false [.ag [.v (.int .i64 (n)),.sl (l).length (qm ExV.cs (l))]] [] (isA (.ag [.v (.int .i64 (n)),.sl (afS n l).length (qm ExV.cs (afS n l))])):=by
 refine Con.frzA ?_
 have c:=zB n 198 [.fp [.v (.int .i64 n),.sl l.length (qm ExV.cs l)] 0] (asl n l) hn (fun i j hi hj=>arH n l i j hn hi hj hl hd) (by simp(disch:=omega)only[go_sem]) (fun h=>rfl) (fun h=>rfl) (fun ks=>by simp(disch:=omega)only[go_sem]) (fun ρ=>rfl)
 change Con _ _ _ _ _ (isA (.ag [.v (.int .i64 (n)),.sl (afS n l).length (qm ExV.cs (afS n l))]))at c
 refine Con.of_aw Tryz.func118 rfl Tryz.ntmps118 (by simp) (by simp) (by simp) (AW.seqLe (E:=[(1,.fp [.v (.int .i64 n),.sl l.length (qm ExV.cs l)] 0),(2,.pt 0 0)]) (H:=[(0,.own 0 [.v (.int .i64 0),.v (.slice none 0 0)])]) (W.sound ?_) (W.sound ?_))
 ·show @W Tryz.prog 7 ⟨_⟩ ⟨_⟩ _ _
  simp(disch:=omega)only[go_sem]
  exact(Le.frz 30000000 (z:=0) (ks:=[.v (.int .i64 n),.sl l.length (qm ExV.cs l)]) (by simp(disch:=omega)only[go_sem]) rfl (by simp(disch:=omega)only[go_sem])).trans (Le.lst [(0,40000000)] _ _ rfl (by simp(disch:=omega)only[go_sem]) (by simp(disch:=omega)only[go_sem]))
 show @W Tryz.prog 7 ⟨_⟩ ⟨fun x σ=>@q9 _ _ _ ⟨_⟩ _ ⟨_⟩ x σ⟩ _ _
 simp(disch:=omega)only[go_sem]
 refine qa (c) ?_
 simp(disch:=omega)only[go_sem]
 exact qh
theorem aL4{n:Nat}{l:List ExV}(h4:n≤4)(hl:l.length=n*n)(hd:gbd (-10000) 10000 l):gbd (-30000) 30013 (afS n l):=
 aes fun i j hi hj=>ExV.sgn_bd ((Q5 (n-1) (by omega) (aef hj hi) (aP9 hl hd)).mono (by omega) (by omega))
theorem aEE{K n:Nat}{L:List ExV}{i j:Nat}(hl:L.length=n*n)(hK:eK K L)(hi:i<n)(hj:j<n):(asl n L i j).val (K*(n-1))=aED n (mv K L n) i j∧ -((K*(n-1):Nat):Int)≤(asl n L i j).e:=by
 obtain⟨m,rfl⟩:∃m,n=m+1:=⟨n-1,by omega⟩
 obtain⟨h1,h2⟩:=Y7 (K:=K) m (mnR (m+1) L j i (m+1)) (aef hj hi) (aP8 hl hK)
 unfold asl aED
 rw[show m+1-1=m from rfl,apv,aO8,h1,Nat.add_comm j i]
 exact⟨by rw[jA fun a b ha hb=>aP3 hj hi ha hb],h2⟩
end Go.Ab
namespace Go.Ab
open Go
section
variable {X:Type}{f:X→List AV}{z:Nat}
theorem aKl(hz:∀x,(f x).length=z){y:X}{L:List X}{i:Nat}(hi:i<L.length):wr (qm f L) (i*z) (f y)=qm f (L.set i y):=by
 have e:L=L.take i++[L[i]]++L.drop (i+1):=by
  rw[List.append_assoc,List.singleton_append,List.getElem_cons_drop,List.take_append_drop]
 have h1:(qm f (L.take i)).length=i*z:=by rw[yv hz,List.length_take,Nat.min_eq_left (by omega)]
 have h2:qm f L=qm f (L.take i)++f L[i]++qm f (L.drop (i+1)):=by
  conv=>lhs;rw[e]
  rw[←QT,←QT,zt,yu,List.append_nil]
 rw[h2,Yy _ _ _ _ (by rw[List.length_append,h1,hz,hz];omega),←h1,Qk _ _ _ (by rw[hz,hz]),List.set_eq_take_append_cons_drop,if_pos hi,←QT,zt,List.append_assoc]
end
theorem aMO{L:List DyV}{i:Nat}{s:Bool}{xs:List Int}{e:Int}(hi:i<L.length):wr (qm DyV.cs L) (i*3) [.v (.bool s),.sl xs.length (qc xs),.v (.int .i64 e)]=qm DyV.cs (L.set i ⟨s,xs,e⟩):=aKl Zj (y:=⟨s,xs,e⟩) hi
theorem aMR{l:List DyV}{i:Nat}(hi:i<l.length):cut (qm DyV.cs l) (i*3) 3=[.v (.bool (l.getD i dy0).s),.sl (l.getD i dy0).xs.length (qc (l.getD i dy0).xs),.v (.int .i64 (l.getD i dy0).e)]:=Z0 (l:=l) Zj hi dy0
end Go.Ab
namespace Go.Ab
open Go Go.Proofs
section
variable (l:List UInt8)(hl:l.length≤9223372036854775807)(i h:Int)(hi:0≤i∧i≤l.length)
include hl hi
def bfj(r:AV):Prop:=∃L:List DyV,L.length≤101∧(∀d∈L,d.xs.length≤200)∧r=.sl L.length (qm DyV.cs L)
end
end Go.Ab
namespace Go.Ab
open Go Go.Proofs
/-! ### Polynomials of a matrix-/
def bcN(n:Nat)(L:List ExV):Nat→List ExV
 |0=>gId n
 |k+1=>qM n (bcN n L k) L
def beV(n:Nat)(L p:List ExV):Nat→List ExV
 |0=>jN n (gId n) ex0
 |k+1=>yj n (beV n L p k) (jN n (bcN n L k) (p.getD k ex0))
theorem aqy{n:Nat}:gbd 0 1 (gId n):=fun x hx=>by
 unfold gId gl at hx
 obtain⟨t,ht,rfl⟩:=List.mem_map.1 hx
 unfold idF;split<;>decide+kernel
end Go.Ab
namespace Go.Ab
def idI(i j:Nat):Int:=if i=j then 1 else 0
def bcM(n:Nat)(A:Nat→Nat→Int):Nat→Nat→Nat→Int
 |0=>idI
 |k+1=>ji n (bcM n A k) A
def pm3(A:Nat→Nat→Int)(r:Nat):Int:=jg 3 (aek A r r)
end Go.Ab
namespace Go.Ab
/-! ### Ranks-/
theorem ZS{f:Nat→Int}{k:Nat}:∀{m:Nat},k≤m→(∀i,k≤i→f i=0)→qx f m=qx f k
 |0,h,_=>by
  obtain rfl:k=0:=by omega
  rfl
 |m+1,h,hz=>by
  by_cases e:k=m+1
  ·rw[e]
  ·rw[qx,ZS (by omega) hz,hz m (by omega),Int.add_zero]
def ajP(n k:Nat)(A:Nat→Nat→Int):Prop:=∃(c:Int) (B C:Nat→Nat→Int),c≠0∧∀i j,i<n→j<n→c*A i j=qx (fun t=>B i t*C t j) k
theorem QP{n k:Nat}{A A':Nat→Nat→Int}(h:∀i j,i<n→j<n→A i j=A' i j):ajP n k A→ajP n k A'
 |⟨c,B,C,h0,h1⟩=>⟨c,B,C,h0,fun i j hi hj=>by rw[←h i j hi hj];exact h1 i j hi hj⟩
theorem KY{n k:Nat}{A:Nat→Nat→Int}:ajP n k A→ajP n k (fun i j=>A j i)
 |⟨c,B,C,h0,h1⟩=>⟨c,fun i t=>C t i,fun t j=>B j t,h0,fun i j hi hj=>by
  rw[h1 j i hj hi];exact qD fun t _=>Int.mul_comm _ _⟩
theorem YC(n k:Nat)(f:Nat→Int)(g:Nat→Nat→Int)(h:Nat→Int):qx (fun s=>qx (fun t=>f t*g t s) k*h s) n=qx (fun t=>f t*qx (fun s=>g t s*h s) n) k:=by
 have e1:qx (fun s=>qx (fun t=>f t*g t s) k*h s) n=qx (fun s=>qx (fun t=>f t*(g t s*h s)) k) n:=
  qD fun s _=>by rw[←jr];exact qD fun t _=>Int.mul_assoc _ _ _
 have e2:qx (fun t=>f t*qx (fun s=>g t s*h s) n) k=qx (fun t=>qx (fun s=>f t*(g t s*h s)) n) k:=
  qD fun t _=>by rw[←jT]
 rw[e1,e2,QR]
theorem apd{n k:Nat}{A:Nat→Nat→Int}(D:Nat→Nat→Int):ajP n k A→ajP n k (ji n A D)
 |⟨c,B,C,h0,h1⟩=>⟨c,B,ji n C D,h0,fun i j hi hj=>by
  show c*qx (fun t=>A i t*D t j) n=qx (fun t=>B i t*qx (fun s=>C t s*D s j) n) k
  rw[←YC,←jT]
  exact qD fun s hs=>by rw[←h1 i s hi hs,Int.mul_assoc]⟩
theorem KZ{n k:Nat}{A:Nat→Nat→Int}(D:Nat→Nat→Int):ajP n k A→ajP n k (ji n D A)
 |⟨c,B,C,h0,h1⟩=>⟨c,ji n D B,C,h0,fun i j hi hj=>by
  show c*qx (fun t=>D i t*A t j) n=qx (fun t=>qx (fun s=>D i s*B s t) n*C t j) k
  rw[YC,←jT]
  exact qD fun s hs=>by rw[←h1 s j hs hj,Int.mul_left_comm]⟩
def dgI(c:Int)(i j:Nat):Int:=if i=j then c else 0
theorem aP5{n:Nat}(c:Int)(A:Nat→Nat→Int){i j:Nat}(hi:i<n):ji n (dgI c) A i j=c*A i j:=by
 unfold ji
 rw[jw (j:=i) hi (fun t _ hne=>by unfold dgI;rw[if_neg (fun h=>hne h.symm),Int.zero_mul])]
 unfold dgI;rw[if_pos rfl]
theorem aUa{n:Nat}(hn:n≤4){c:Int}(hc:c≠0):jg n (dgI c)≠0:=by
 rcases(show n=0∨n=1∨n=2∨n=3∨n=4 by omega)with rfl|rfl|rfl|rfl|rfl
 ·intro h;cases h
 ·rw[asB];simp[dgI,hc]
 ·rw[ak9];simp[dgI,hc]
 ·rw[ak8];simp[dgI,hc]
 ·rw[aGi];simp[dgI,hc]
theorem aDR{n:Nat}(hn:n≤4)(h1:1≤n){A:Nat→Nat→Int}(h:∀i,A i (n-1)=0):jg n A=0:=by
 rcases(show n=1∨n=2∨n=3∨n=4 by omega)with rfl|rfl|rfl|rfl
 ·have:=h 0
  rw[asB];simpa using this
 ·have h:∀i,A i 1=0:=h
  rw[ak9];simp[h]
 ·have h:∀i,A i 2=0:=h
  rw[ak8];simp[h]
 ·have h:∀i,A i 3=0:=h
  rw[aGi];simp[h]
theorem aBC{n k:Nat}(hn:n≤4)(hk:k<n){A:Nat→Nat→Int}:ajP n k A→jg n A=0
 |⟨c,B,C,h0,h1⟩=>by
  have e:jg n (ji n (dgI c) A)=jg n (ji n (fun i t=>if t<k then B i t else 0) C):=jA fun i j hi hj=>by
   rw[aP5 c A hi,h1 i j hi hj]
   show _=qx (fun t=>(if t<k then B i t else 0)*C t j) n
   rw[ZS (f:=fun t=>(if t<k then B i t else 0)*C t j) (k:=k) (by omega) (fun t ht=>by rw[if_neg (by omega),Int.zero_mul])]
   exact qD fun t ht=>by rw[if_pos ht]
  rw[Jp hn,Jp hn,aDR hn (by omega) (A:=fun i t=>if t<k then B i t else 0) (fun i=>if_neg (by omega)),Int.zero_mul]at e
  exact(Int.mul_eq_zero.1 e).resolve_left (aUa hn h0)
theorem aq1{r:Nat}(hr:r≤4){T:Nat→Nat→Int}(hd:∀t,t<r→T t t≠0)(hz:∀s t,t<s→s<r→T s t=0):jg r T≠0:=by
 rcases(show r=0∨r=1∨r=2∨r=3∨r=4 by omega)with rfl|rfl|rfl|rfl|rfl
 ·intro h;cases h
 ·rw[asB];exact hd 0 (by omega)
 ·rw[ak9,hz 1 0 (by omega) (by omega)]
  simp[hd 0 (by omega),hd 1 (by omega)]
 ·rw[ak8,hz 1 0 (by omega) (by omega),hz 2 0 (by omega) (by omega),hz 2 1 (by omega) (by omega)]
  simp[hd 0 (by omega),hd 1 (by omega),hd 2 (by omega)]
 ·rw[aGi,hz 1 0 (by omega) (by omega),hz 2 0 (by omega) (by omega),hz 2 1 (by omega) (by omega),hz 3 0 (by omega) (by omega),hz 3 1 (by omega) (by omega),hz 3 2 (by omega) (by omega)]
  simp[hd 0 (by omega),hd 1 (by omega),hd 2 (by omega),hd 3 (by omega)]
structure isRank(n:Nat)(A:Nat→Nat→Int)(r:Nat):Prop where
 le:r≤n
 up:ajP n r A
 low:∀k,ajP n k A→r≤k
 full:r=n→jg n A≠0
theorem isRank.turn{n r s:Nat}{A:Nat→Nat→Int}(h:isRank n A r)(g:isRank n (fun i j=>A j i) s):s=r:=
 Nat.le_antisymm (g.low r (KY h.up)) (h.low s (KY g.up))
theorem isRank.congr{n r:Nat}{A B:Nat→Nat→Int}(h:isRank n A r)(e:∀i j,i<n→j<n→A i j=B i j):isRank n B r:=
 ⟨h.le,QP e h.up,fun k hk=>h.low k (QP (fun i j hi hj=>(e i j hi hj).symm) hk),fun hr=>by rw[←jA e];exact h.full hr⟩
theorem isRank.mul{n r s t:Nat}{A B:Nat→Nat→Int}(h:isRank n A r)(g:isRank n B s)(p:isRank n (ji n A B) t):t≤r∧t≤s:=
 ⟨p.low r (apd B h.up),p.low s (KZ A g.up)⟩
structure elim(n:Nat)(A C:Nat→Nat→Int)(r j:Nat):Prop where
 le:r≤n
 rj:r≤j
 u:∃U:Nat→Nat→Int,jg n U≠0∧∀i k,i<n→k<n→C i k=ji n U A i k
 p:∃p:Nat→Nat,∀t,t<r→p t<j∧p t<n∧C t (p t)≠0∧∀s,t<s→s<n→C s (p t)=0
 z:∀i k,r≤i→i<n→k<j→k<n→C i k=0
theorem J4(n:Nat)(A B C:Nat→Nat→Int)(i j:Nat):ji n (ji n A B) C i j=ji n A (ji n B C) i j:=
 YC n n (fun t=>A i t) B (fun s=>C s j)
theorem elim.rank{n:Nat}(hn:n≤4){A C:Nat→Nat→Int}{r:Nat}(h:elim n A C r n):isRank n A r:=by
 obtain⟨hle, -,⟨U,hU,hC⟩,⟨p,hp⟩,hz⟩:=h
 have lowC:∀k,ajP n k C→r≤k:=fun k hk=>by
  rcases Nat.lt_or_ge k r with g|g
  ·exfalso
   obtain⟨c,B,D,h0,h1⟩:=hk
   have ht:ajP r k (fun s t=>C s (p t)):=⟨c,B,fun u t=>D u (p t),h0,fun s t hs ht=>h1 s (p t) (by omega) (hp t ht).2.1⟩
   exact aq1 (by omega) (fun t ht=>(hp t ht).2.2.1) (fun s t hst hs=>(hp t (by omega)).2.2.2 s hst (by omega)) (aBC (by omega) g ht)
  ·exact g
 refine⟨hle,?_,fun k hk=>lowC k (QP (fun i j hi hj=>(hC i j hi hj).symm) (KZ U hk)),fun hr hd=>?_⟩
 ·
  obtain⟨V,hV⟩:∃V:Nat→Nat→Int,∀i j,i<n→j<n→ji n V U i j=if i=j then jg n U else 0:=by
   refine⟨fun i j=>aED n (fun a b=>U b a) j i,fun i j hi hj=>?_⟩
   have:=ask hn (fun a b=>U b a) hj hi
   rw[aDQ hn]at this
   have e2:(if i=j then jg n U else 0)=if j=i then jg n U else 0:=by
    by_cases e:i=j
    ·rw[if_pos e,if_pos e.symm]
    ·rw[if_neg e,if_neg (fun h=>e h.symm)]
   rw[e2,←this]
   exact qD fun t _=>Int.mul_comm _ _
  refine⟨jg n U,V,C,hU,fun i j hi hj=>?_⟩
  have e1:qx (fun t=>V i t*C t j) r=qx (fun t=>V i t*C t j) n:=by
   have:qx (fun t=>V i t*C t j) n=qx (fun t=>if t<r then V i t*C t j else 0) n:=qD fun t ht=>by
    by_cases g:t<r
    ·rw[if_pos g]
    ·rw[if_neg g,hz t j (by omega) ht hj hj,Int.mul_zero]
   rw[this,ZS hle (fun t ht=>if_neg (by omega))]
   exact qD fun t ht=>by rw[if_pos ht]
  rw[e1]
  have e2:qx (fun t=>V i t*C t j) n=ji n (ji n V U) A i j:=by
   rw[J4]
   exact qD fun t ht=>by rw[hC t j ht hj]
  rw[e2]
  show _=qx (fun t=>ji n V U i t*A t j) n
  rw[jw (j:=i) hi (fun t ht hne=>by rw[hV i t hi ht,if_neg (fun h=>hne h.symm),Int.zero_mul]),hV i i hi hi,if_pos rfl]
 ·subst hr
  have h1:jg r C=0:=by
   rw[jA hC,Jp hn,hd,Int.mul_zero]
  have h2:jg r (ji r C (fun u t=>if u=p t then 1 else 0))=0:=by rw[Jp hn,h1,Int.zero_mul]
  refine aq1 hn (T:=fun s t=>C s (p t)) (fun t ht=>(hp t ht).2.2.1) (fun s t hst hs=>(hp t (by omega)).2.2.2 s hst (by omega)) ?_
  rw[←h2]
  refine jA fun i j hi hj=>?_
  show C i (p j)=qx (fun u=>C i u*(if u=p j then 1 else 0)) r
  rw[jw (j:=p j) (hp j hj).2.1 (fun t _ hne=>by rw[if_neg hne,Int.mul_zero]),if_pos rfl,Int.mul_one]
theorem elim.skip{n:Nat}{A C:Nat→Nat→Int}{r j:Nat}(h:elim n A C r j)(hz:∀i,r≤i→i<n→C i j=0):elim n A C r (j+1):=by
 obtain⟨h1,h2,h3,⟨p,hp⟩,h5⟩:=h
 refine⟨h1,by omega,h3,⟨p,fun t ht=>⟨by have:=(hp t ht).1;omega,(hp t ht).2⟩⟩,fun i k hi hin hk hkn=>?_⟩
 rcases(show k<j∨k=j by omega)with g|rfl
 ·exact h5 i k hi hin g hkn
 ·exact hz i hi hin
def swI(a b i:Nat):Nat:=if i=a then b else if i=b then a else i
theorem aq2{n:Nat}(hn:n≤4){a r:Nat}(ha:a<n)(hr:r<n)(hne:a≠r)(p q:Int)(hp:p≠0):jg n (fun i j=>if i=a then(if j=a then p else if j=r then-q else 0)else if i=j then 1 else 0)≠0:=by
 rcases(show n=1∨n=2∨n=3∨n=4 by omega)with rfl|rfl|rfl|rfl
 ·omega
 ·rw[ak9]
  rcases(show a=0∨a=1 by omega)with rfl|rfl<;>rcases(show r=0∨r=1 by omega)with rfl|rfl<;>first|omega|simp[hp]
 ·rw[ak8]
  rcases(show a=0∨a=1∨a=2 by omega)with rfl|rfl|rfl<;>rcases(show r=0∨r=1∨r=2 by omega)with rfl|rfl|rfl<;>first|omega|simp[hp]
 ·rw[aGi]
  rcases(show a=0∨a=1∨a=2∨a=3 by omega)with rfl|rfl|rfl|rfl<;>rcases(show r=0∨r=1∨r=2∨r=3 by omega)with rfl|rfl|rfl|rfl<;>first|omega|simp[hp]
structure elimR(n:Nat)(A C:Nat→Nat→Int)(r j m:Nat):Prop where
 rn:r<n
 rj:r≤j
 jn:j<n
 rm:r<m
 u:∃U:Nat→Nat→Int,jg n U≠0∧∀i k,i<n→k<n→C i k=ji n U A i k
 p:∃p:Nat→Nat,∀t,t<r→p t<j∧p t<n∧C t (p t)≠0∧∀s,t<s→s<n→C s (p t)=0
 z:∀i k,r≤i→i<n→k<j→k<n→C i k=0
 pv:C r j≠0
 zm:∀i,r<i→i<m→i<n→C i j=0
theorem elim.pivot{n:Nat}{A C:Nat→Nat→Int}{r j:Nat}(h:elim n A C r j)(hr:r<n)(hj:j<n)(hp:C r j≠0):elimR n A C r j (r+1):=
 ⟨hr,h.rj,hj,by omega,h.u,h.p,h.z,hp,fun i h1 h2=>by omega⟩
theorem elimR.done{n:Nat}{A C:Nat→Nat→Int}{r j m:Nat}(h:elimR n A C r j m)(hm:n≤m):elim n A C (r+1) (j+1):=by
 obtain⟨h1,h2,h3,h4,h5,⟨p,hp⟩,h7,h8,h9⟩:=h
 refine⟨by omega,by omega,h5,⟨fun t=>if t=r then j else p t,fun t ht=>?_⟩,fun i k hi hin hk hkn=>?_⟩
 ·dsimp only
  by_cases e:t=r
  ·rw[if_pos e,e]
   exact⟨by omega,h3,h8,fun s hs hsn=>h9 s hs (by omega) hsn⟩
  ·rw[if_neg e]
   obtain⟨a,b,c,d⟩:=hp t (by omega)
   exact⟨by omega,b,c,d⟩
 ·rcases(show k<j∨k=j by omega)with g|rfl
  ·exact h7 i k (by omega) hin g hkn
  ·exact h9 i (by omega) (by omega) hin
theorem elimR.step{n:Nat}(hn:n≤4){A C C':Nat→Nat→Int}{r j m:Nat}(h:elimR n A C r j m)(hm:m<n)(h1:∀i k,i<n→k<n→i≠m→C' i k=C i k)(h2:∀k,k<n→C' m k=C m k*C r j-C r k*C m j):elimR n A C' r j (m+1):=by
 obtain⟨g1,g2,g3,g4,⟨U,hU,hC⟩,⟨p,hp⟩,g7,g8,g9⟩:=h
 refine⟨g1,g2,g3,by omega,⟨ji n (fun i k=>if i=m then(if k=m then C r j else if k=r then-C m j else 0)else if i=k then 1 else 0) U,?_,fun i k hi hk=>?_⟩,⟨p,fun t ht=>?_⟩,fun i k hi hin hk hkn=>?_,?_,fun i hi him hin=>?_⟩
 ·rw[Jp hn]
  intro e
  rcases Int.mul_eq_zero.1 e with e|e
  ·exact aq2 hn hm g1 (by omega) (C r j) (C m j) g8 e
  ·exact hU e
 ·rw[J4]
  show C' i k=qx (fun t=>(if i=m then(if t=m then C r j else if t=r then-C m j else 0)else if i=t then 1 else 0)*ji n U A t k) n
  by_cases e:i=m
  ·subst e
   have e2:qx (fun t=>(if i=i then(if t=i then C r j else if t=r then-C i j else 0)else if i=t then 1 else 0)*ji n U A t k) n=qx (fun t=>(if t=i then C r j*C i k else 0)+(if t=r then-C i j*C r k else 0)) n:=qD fun t ht=>by
    rw[if_pos rfl,←hC t k ht hk]
    by_cases a:t=i
    ·rw[if_pos a,if_pos a,if_neg (show ¬t=r by omega),a,Int.add_zero]
    ·rw[if_neg a,if_neg a]
     by_cases b:t=r
     ·rw[if_pos b,if_pos b,b,Int.zero_add]
     ·rw[if_neg b,if_neg b,Int.zero_mul,Int.add_zero]
   rw[e2,Qn,jw (j:=i) hi (fun t _ hne=>if_neg hne),jw (j:=r) g1 (fun t _ hne=>if_neg hne),if_pos rfl,if_pos rfl,h2 k hk,Int.mul_comm (C i k),Int.neg_mul,Int.mul_comm (C r k)]
   omega
  ·rw[jw (j:=i) hi (fun t _ hne=>by rw[if_neg e,if_neg (fun h=>hne h.symm),Int.zero_mul]),if_neg e,if_pos rfl,Int.one_mul,h1 i k hi hk e]
   exact hC i k hi hk
 ·obtain⟨a,b,c,d⟩:=hp t ht
  refine⟨a,b,?_,fun s hts hsn=>?_⟩
  ·rw[h1 t (p t) (by omega) b (by omega)];exact c
  ·by_cases e:s=m
   ·rw[e,h2 _ b,d m (by omega) hm,d r (by omega) g1];simp
   ·rw[h1 s _ hsn b e];exact d s hts hsn
 ·by_cases e:i=m
  ·rw[e,h2 k hkn,g7 m k (by omega) hm hk hkn,g7 r k (by omega) g1 hk hkn];simp
  ·rw[h1 i k hin hkn e];exact g7 i k hi hin hk hkn
 ·rw[h1 r j g1 g3 (by omega)];exact g8
 ·by_cases e:i=m
  ·rw[e,h2 j g3,Int.mul_comm];omega
  ·rw[h1 i j hin g3 e];exact g9 i hi (by omega) hin
end Go.Ab
namespace Go.Ab
/-! ### Sums of powers of a matrix,at one scale-/
def p2(k:Nat):Int:=2^k
theorem yx(a b:Nat):p2 (a+b)=p2 a*p2 b:=Int.pow_add 2 a b
theorem afB(a:Nat):0<p2 a:=Int.pow_pos (by omega)
theorem aCg{a b c:Nat}(h:a=b+c):p2 a=p2 b*p2 c:=by rw[h,yx]
def bfN(n:Nat)(P:Nat→Int)(A:Nat→Nat→Int)(m i j:Nat):Int:=qx (fun t=>P t*bcM n A t i j*p2 (40000-3000*(t+1))) m
end Go.Ab
namespace Go.Ab
open Go Go.Proofs
/-! ### What polynomials of a matrix are worth-/
theorem aFZ{K n:Nat}{L:List ExV}{i j:Nat}(hl:L.length=n*n)(hK:eK K L)(hi:i<n)(hj:j<n):mv K (L.map ExV.can) n i j=mv K L n i j:=by
 have hx:=qQ hi hj
 unfold mv
 rw[ap8 (by rw[hl];exact hx),Zb (QF hK (by rw[hl];exact hx))]
theorem aCc{K K' n:Nat}{L L':List ExV}{i j:Nat}(h:eK K L)(h':eK K' L')(hl:L.length=n*n)(hl':L'.length=n*n)(hi:i<n)(hj:j<n):mv (K+K') (qM n L L') n i j=ji n (mv K L n) (mv K' L' n) i j:=by
 obtain⟨h1,h2⟩:=ZH h h' hl hl' hi hj n (Nat.le_refl n)
 show(_:ExV).val _=_
 unfold qM
 rw[akh hi hj,h1];rfl
end Go.Ab
namespace Go.Ab
open Go Go.Proofs
/-! ### What rounded quotients are worth-/
theorem aKj(s:Bool)(a b:Nat)(hb:0<b):2*(rq s a b 0*b)≤2*a+b∧2*a≤2*(rq s a b 0*b)+b:=by
 have h1:=Nat.div_add_mod a b
 have h2:=Nat.mod_lt a hb
 have h3:a/b*b=b*(a/b):=Nat.mul_comm _ _
 unfold rq
 by_cases h:a % b=0
 ·rw[if_pos h];omega
 ·rw[if_neg h]
  by_cases hr:rup s (decide (a/b % 2=1)) (zy ((a % b*2:Nat):Int) (b:Int)) 0=true
  ·rw[if_pos hr]
   have:b≤a % b*2:=by
    unfold rup at hr
    rw[if_neg (by omega),if_neg (by omega),if_pos rfl]at hr
    unfold zy at hr
    rcases Nat.lt_or_ge (a % b*2) b with g|g
    ·rw[if_pos (by omega)]at hr;simp at hr
    ·exact g
   rw[Nat.add_mul,Nat.one_mul]
   omega
  ·rw[if_neg hr]
   have:a % b*2≤b:=by
    unfold rup at hr
    rw[if_neg (by omega),if_neg (by omega),if_pos rfl]at hr
    unfold zy at hr
    rcases Nat.lt_or_ge b (a % b*2)with g|g
    ·rw[if_neg (by omega),if_pos (by omega)]at hr;simp at hr
    ·exact g
   omega
theorem aZ5(s:Bool)(m:Nat):sv s m=sv s 1*(m:Int):=by cases s<;>simp[sv]
theorem aCm{x y:ExV}{low mode:Int}{Kx Ky Kz:Nat}(hy0:y.m≠0)(hx: -(Kx:Int)≤x.e)(hy: -(Ky:Int)≤y.e)(hz: -(Kz:Int)≤low):
  ∃(a b:Nat) (f:Int),0<b∧0<f∧(x.over y low mode).val Kz*y.val Ky*p2 Kx=sv x.s 1*((rq (x.s != y.s) a b mode*b:Nat)*f)∧x.val Kx*p2 (Ky+Kz)=sv x.s 1*(a*f)∧((y.val Ky).natAbs:Int)*p2 ((low+Kz).toNat+Kx)=b*f:=by
 obtain⟨k,hk⟩:∃k,k=x.e-y.e-low:=⟨_,rfl⟩
 have hz':(x.over y low mode).val Kz=sv (x.s != y.s) (rq (x.s != y.s) (ovA x.m k) (ovA y.m (-k)) mode)*p2 (low+Kz).toNat:=by
  rw[hk]
  show dv Kz ((x.s != y.s)&&decide (ovQ (x.s != y.s) x.m x.e y.m y.e low mode≠0)) (ovQ (x.s != y.s) x.m x.e y.m y.e low mode) low=_
  rw[aqZ];rfl
 have hyv:y.val Ky=sv y.s y.m*p2 (y.e+Ky).toNat:=rfl
 have hxv:x.val Kx=sv x.s x.m*p2 (x.e+Kx).toNat:=rfl
 have hb:0<ovA y.m (-k):=Nat.mul_pos (Nat.pos_of_ne_zero hy0) (Nat.pow_pos (by omega))
 generalize hq:rq (x.s != y.s) (ovA x.m k) (ovA y.m (-k)) mode=q at*
 obtain⟨g,hg1,hg2⟩:∃g:Nat,(low+Kz).toNat+(y.e+Ky).toNat+Kx=(-k).toNat+g∧(x.e+Kx).toNat+(Ky+Kz)=k.toNat+g:=by
  refine⟨min ((low+Kz).toNat+(y.e+Ky).toNat+Kx) ((x.e+Kx).toNat+(Ky+Kz)),?_,?_⟩<;>omega
 have ea:((ovA x.m k:Nat):Int)=x.m*p2 k.toNat:=by unfold ovA p2;rw[Int.natCast_mul,Int.natCast_pow];rfl
 have eb:((ovA y.m (-k):Nat):Int)=y.m*p2 (-k).toNat:=by unfold ovA p2;rw[Int.natCast_mul,Int.natCast_pow];rfl
 refine⟨ovA x.m k,ovA y.m (-k),p2 g,hb,afB g,?_,?_,?_⟩
 ·rw[hq,hz',hyv,Int.natCast_mul,eb]
  have e1:p2 (low+Kz).toNat*p2 (y.e+Ky).toNat*p2 Kx=p2 (-k).toNat*p2 g:=by rw[←yx,←yx,hg1,yx]
  have e2:sv (x.s != y.s) q*sv y.s y.m=sv x.s 1*((q:Int)*y.m):=by
   cases x.s<;>cases y.s<;>(simp[sv];try grind)
  calc sv (x.s != y.s) q*p2 (low+Kz).toNat*(sv y.s y.m*p2 (y.e+Ky).toNat)*p2 Kx=(sv (x.s != y.s) q*sv y.s y.m)*(p2 (low+Kz).toNat*p2 (y.e+Ky).toNat*p2 Kx):=by grind
   _=_:=by rw[e1,e2];grind
 ·rw[hxv,ea,aZ5 x.s x.m]
  have e1:p2 (x.e+Kx).toNat*p2 (Ky+Kz)=p2 k.toNat*p2 g:=by rw[←yx,hg2,yx]
  calc sv x.s 1*(x.m:Int)*p2 (x.e+Kx).toNat*p2 (Ky+Kz)=sv x.s 1*(x.m:Int)*(p2 (x.e+Kx).toNat*p2 (Ky+Kz)):=by rw[Int.mul_assoc]
   _=_:=by rw[e1];grind
 ·have e0:((y.val Ky).natAbs:Int)=y.m*p2 (y.e+Ky).toNat:=by
   have hp:=afB (y.e+Ky).toNat
   rw[hyv,Int.natAbs_mul,K3,Int.natCast_mul,show(((p2 (y.e+Ky).toNat).natAbs:Nat):Int)=p2 (y.e+Ky).toNat by omega]
  rw[e0,eb,yx]
  have e1:p2 (y.e+Ky).toNat*(p2 (low+Kz).toNat*p2 Kx)=p2 (-k).toNat*p2 g:=by rw[←yx,←yx,←yx,←hg1];exact congrArg p2 (by omega)
  calc (y.m:Int)*p2 (y.e+Ky).toNat*(p2 (low+Kz).toNat*p2 Kx)=(y.m:Int)*(p2 (y.e+Ky).toNat*(p2 (low+Kz).toNat*p2 Kx)):=by rw[Int.mul_assoc]
   _=_:=by rw[e1];grind
theorem apO{x y:ExV}{low:Int}{Kx Ky Kz:Nat}(hy0:y.m≠0)(hx: -(Kx:Int)≤x.e)(hy: -(Ky:Int)≤y.e)(hz: -(Kz:Int)≤low):
  2*((((x.over y low 0).val Kz*y.val Ky*p2 Kx-x.val Kx*p2 (Ky+Kz)).natAbs:Nat):Int)≤((y.val Ky).natAbs:Int)*p2 ((low+Kz).toNat+Kx):=by
 obtain⟨a,b,f,hb,hf,e1,e2,e3⟩:=aCm (mode:=0) hy0 hx hy hz
 obtain⟨h1,h2⟩:=aKj (x.s != y.s) a b hb
 rw[e1,e2,e3,←Int.mul_sub,←Int.sub_mul,Int.natAbs_mul,Int.natAbs_mul]
 generalize rq (x.s != y.s) a b 0*b=q at*
 have hs:(sv x.s 1).natAbs=1:=K3 _ _
 have hff:((f.natAbs:Nat):Int)=f:=by omega
 rw[hs,Nat.one_mul,Int.natCast_mul,hff,←Int.mul_assoc]
 exact Int.mul_le_mul_of_nonneg_right (by omega) (by omega)
end Go.Ab
namespace Go.Ab
open Go Go.Proofs
section
variable (l:List UInt8)(hl:l.length≤9223372036854775807)(i h:Int)(hi:0≤i∧i≤l.length)
include hl hi
theorem JN:Con Tryz.prog 114 false [.pt 10000000 0] [.own 0 [.sl l.length (ql l),.v (.int .i64 i),.v (.int .i64 h)]] (Y9 l bay):=by
 refine Con.cur l i h (Q:=fun r hs=>(∀ob∈hs,ob.men fun _=>False)∧bay (qG (rhp hs []) 6 r)) ?_ fun _ _ h=>h
 refine Con.of_aw Tryz.func114 rfl Tryz.ntmps114 (by simp) (by simp) (by simp) (W.sound ?_)
 show @W Tryz.prog 47 ⟨_⟩ ⟨fun x σ=>@q9 _ _ _ ⟨_⟩ _ ⟨_⟩ x σ⟩ _ _
 simp(disch:=omega)only[go_sem]
 refine qv (aMX l hl i h hi) ?_
 rintro r i1 h1 hi1 ⟨n,hn,rfl⟩
 simp(disch:=omega)only[go_sem]
 refine yI false [10000000] (aeO l hl i1 h1 hi1 n hn) (by simp(disch:=omega)only[go_sem]) (by simp(disch:=omega)only[go_sem]) rfl (qR (z:=0) (cs:=[.sl l.length (ql l),.v (.int .i64 i1),.v (.int .i64 h1)]) (by simp(disch:=omega)only[go_sem]) (by simp(disch:=omega)only[go_sem])) (by intro n hn;exact⟨_,List.mem_cons_self ..,by rw[List.mem_singleton.1 hn];rfl⟩) ?_
 rintro r hs bs ⟨⟨k,M,o,m,g1,g0,g2,g3,rfl,rfl⟩,i2,h2,hi2,rfl⟩-
 refine⟨by simp[qP];simp(disch:=omega)only[go_sem],?_⟩
 simp(disch:=omega)only[go_sem]
 have hq:=jK hn.2
 have hlen:((M.drop o).take m).length=m:=by rw[List.length_take,List.length_drop];omega
 have hc:cut (qm DyV.cs M) (o*3) (m*3)=qm DyV.cs ((M.drop o).take m):=ad7 Zj o m
 have cM:=ae6 k ((M.drop o).take m) (by omega) (fun d hd=>g3 d (List.mem_of_mem_drop (List.mem_of_mem_take hd)))
 rw[hlen]at cM
 have hm:∀(M:List DyV),∀ob∈[Ob.own 3 (qm DyV.cs M)],ob.men fun _=>False:=fun M ob ho=>by rw[List.mem_singleton.1 ho];exact of_eq_true aqW
 refine qk cM ?_ (by simp(disch:=omega)only[go_sem,hc])
 simp(disch:=omega)only[go_sem]
 cases hB:J5 k ((M.drop o).take m)
 ·simp(disch:=omega)only[go_sem]
  refine qg [(0,120000000)] [.own 3 (qm DyV.cs M)] [.own 0 [.sl l.length (ql l),.v (.int .i64 i2),.v (.int .i64 h2)]] [.ag [.v (.int .i64 k),.rf 0 (o*3) m]] rfl (by simp(disch:=omega)only[go_sem]) (by simp(disch:=omega)only[go_sem]) (by simp) (by simp) ⟨⟨hm M,YP g1 (by omega) g3⟩,_,_,hi2,rfl⟩
 obtain⟨n2,L,rfl,hML,hL⟩:=aF2 hB
 have hm2:m=n2*n2:=by rw[←hlen,hML,List.length_map,hL.len]
 have hnn:n2=n∧o=0:=by
  have:=hL.n1
  have:=hL.n4
  obtain⟨hn1,hn4⟩:=hn
  rcases(show n=1∨n=2∨n=3∨n=4 by omega)with rfl|rfl|rfl|rfl<;>rcases(show n2=1∨n2=2∨n2=3∨n2=4 by omega)with rfl|rfl|rfl|rfl<;>omega
 obtain⟨rfl,rfl⟩:=hnn
 subst hm2
 have hMM:M=L.map ExV.dyv:=by
  rw[←hML,List.drop_zero,List.take_of_length_le (by omega)]
 simp(disch:=omega)only[go_sem]
 by_cases h1n:(1:Int)<n2
 rotate_left
 ·simp(disch:=omega)only[go_sem,h1n]
  refine qg [(0,120000000)] [.own 3 (qm DyV.cs M)] [.own 0 [.sl l.length (ql l),.v (.int .i64 i2),.v (.int .i64 h2)]] [.ag [.v (.int .i64 n2),.rf 0 (0*3) (n2*n2)]] rfl (by simp(disch:=omega)only[go_sem]) (by simp(disch:=omega)only[go_sem]) (by simp) (by simp) ⟨⟨hm M,YP g1 (by omega) g3⟩,_,_,hi2,rfl⟩
 simp(disch:=omega)only[go_sem,h1n]
 refine qv (q6 l hl i2 h2 hi2 2 (by omega)) ?_
 rintro r i3 h3 hi3 ⟨b,rfl⟩
 simp(disch:=omega)only[go_sem]
 cases b
 ·simp(disch:=omega)only[go_sem]
  refine qg [(0,120000000)] [.own 3 (qm DyV.cs M)] [.own 0 [.sl l.length (ql l),.v (.int .i64 i3),.v (.int .i64 h3)]] [.ag [.v (.int .i64 n2),.rf 0 (0*3) (n2*n2)]] rfl (by simp(disch:=omega)only[go_sem]) (by simp(disch:=omega)only[go_sem]) (by simp) (by simp) ⟨⟨hm M,YP g1 (by omega) g3⟩,_,_,hi3,rfl⟩
 simp(disch:=omega)only[go_sem]
 refine qj (fun x:Nat×List DyV=>[(0,.pt 10000000 0),(2,.pt 5 0),(3,.v (.int .i64 n2)),(4,.pt 4 0),(5,.v (.int .i64 x.1))])
  (fun x=>[(3,.own 3 (qm DyV.cs x.2)),(4,.own 0 [.v (.int .i64 n2),.rf 3 0 (n2*n2)]),(5,.own 0 [.v (.int .i64 0),.v (.slice none 0 0)]),(10000000,.own 0 [.sl l.length (ql l),.v (.int .i64 i3),.v (.int .i64 h3)])])
  (fun x=>x.1≤n2∧x.2.length=n2*n2∧(∀d∈x.2,d.xs.length≤200)∧∀t,t<n2→x.2.getD t dy0=(L.getD t ex0).dyv) (fun x=>n2-x.1) (0,M) ⟨by simp,g2,g3,fun t ht=>?_⟩
  (Le.lst [(3,120000000),(4,60000000),(5,40000000)] _ _ rfl (by simp(disch:=omega)only[go_sem]) (by simp(disch:=omega)only[go_sem])) ?_
 ·have:n2≤n2*n2:=Nat.le_mul_of_pos_left n2 (by omega)
  rw[hMM,List.getD_eq_getElem?_getD,List.getElem?_map,List.getD_eq_getElem?_getD,List.getElem?_eq_getElem (by rw[hL.len];omega)];rfl
 rintro⟨j,D⟩ ⟨hj,hD,hD2,hD3⟩
 dsimp only at hj hD hD2 hD3 ⊢
 simp(disch:=omega)only[go_sem]
 refine qe (fun c1=>?_) (fun c1=>?_)
 ·have hnn:n2≤n2*n2:=Nat.le_mul_of_pos_left n2 (by omega)
  have hcut:=aMR (l:=D) (i:=j) (by omega)
  rw[hD3 j (by omega)]at hcut
  have hok:(L.getD j ex0).ok=true:=hL.ok _ (by rw[List.getD_eq_getElem?_getD,List.getElem?_eq_getElem (by rw[hL.len];omega)];exact List.getElem_mem _)
  have hst:∀y:ExV,(lim y.m).length≤200→(∀d∈D.set ((n2-1)*n2+j) y.dyv,d.xs.length≤200)∧∀t,t<n2→(D.set ((n2-1)*n2+j) y.dyv).getD t dy0=(L.getD t ex0).dyv:=fun y hy=>⟨fun d hd=>by
   rcases List.mem_or_eq_of_mem_set hd with hd|rfl
   ·exact hD2 d hd
   ·exact hy,fun t ht=>by
   have:n2≤(n2-1)*n2:=Nat.le_mul_of_pos_left n2 (by omega)
   rw[List.getD_eq_getElem?_getD,List.getElem?_set_ne (by omega),←List.getD_eq_getElem?_getD]
   exact hD3 t ht⟩
  have hidx:(n2-1)*n2+j<n2*n2:=qQ (by omega) (by omega)
  have eidx:((n2:Int)-1)*n2+j=(((n2-1)*n2+j:Nat):Int):=by rw[Int.natCast_add,Int.natCast_mul];congr 2;omega
  have hset:=fun y:ExV=>aMO (L:=D) (i:=(n2-1)*n2+j) (s:=y.s) (xs:=lim y.m) (e:=y.e) (by omega)
  have hsl:∀y:ExV,(D.set ((n2-1)*n2+j) y.dyv).length=n2*n2:=fun y=>by rw[List.length_set];exact hD
  generalize (n2-1)*n2+j=p at*
  generalize L.getD j ex0=x at*
  have bx:=aCn hok
  have ca:=akD x x (bx.mono (by omega) (by omega)) (bx.mono (by omega) (by omega))
  have hl2:(lim (x.plus x).can.m).length≤200:=by
   have r:=jH hok
   have e:=aqY (K:=3000) (s:=(x.plus x).s) (m:=(x.plus x).m) (e:=(x.plus x).e) (s':=x.s) (m':=x.m) (e':=x.e+1) (aae (by omega) (by omega)) (by omega) (by
    have h1:=Qu (K:=3000) (x:=x) (y:=x) (by omega) (by omega)
    have h2:dv 3000 x.s x.m (x.e+1)=x.val 3000*2:=by
     unfold ExV.val dv
     rw[show(x.e+1+((3000:Nat):Int)).toNat=(x.e+((3000:Nat):Int)).toNat+1 by omega,Int.pow_succ,Int.mul_assoc]
    have h1':dv 3000 (x.plus x).s (x.plus x).m (x.plus x).e=x.val 3000+x.val 3000:=h1
    omega)
   have:(x.plus x).can.m=oM x.m:=e.2.1
   rw[this]
   have:=yR (aj6 x.m)
   omega
  generalize (x.plus x).can=y at*
  dsimp only[ExV.dyv]at hcut
  simp(disch:=omega)only[go_sem,c1]
  refine qq rfl [⟨0,[],[]⟩,⟨1,[],[]⟩,⟨2,[1],[]⟩,⟨3,[1],[]⟩,⟨4,[1],[]⟩,⟨5,[1],[]⟩,⟨6,[1],[]⟩,⟨7,[1],[]⟩,⟨8,[1],[]⟩,⟨9,[1],[]⟩,⟨10,[1,9],[]⟩,⟨11,[1],[]⟩,⟨12,[1],[]⟩,⟨13,[1,9,12],[]⟩,⟨14,[1,9,12],[]⟩,⟨15,[1,9,12,14],[]⟩,⟨16,[1,9,12],[]⟩,⟨17,[1,9,12],[]⟩,⟨18,[1],[]⟩,⟨19,[],[]⟩,⟨20,[],[]⟩] (by kernel_rfl) ?_
  simp(disch:=omega)only[go_sem,hcut]
  refine⟨by omega,by omega,by omega,by omega,?_⟩
  refine qa (ca) ?_
  simp(disch:=omega)only[go_sem]
  simp(disch:=omega)only[go_sem,eidx]
  rw[hset y]
  exact⟨by omega,by omega,qb (j+1,D.set p y.dyv) [] ⟨by omega,hsl y,(hst y hl2).1,(hst y hl2).2⟩ (by show n2-(j+1)<n2-j;omega) rfl (by simp(disch:=omega)only[go_sem];try omega) (by simp(disch:=omega)only[go_sem];rfl)⟩
 ·simp(disch:=omega)only[go_sem,c1]
  refine qg [(0,3)] [.own 3 (qm DyV.cs D)] [.own 0 [.sl l.length (ql l),.v (.int .i64 i3),.v (.int .i64 h3)]] [.ag [.v (.int .i64 n2),.rf 0 (0*3) (n2*n2)]] rfl (by simp(disch:=omega)only[go_sem]) (by simp(disch:=omega)only[go_sem]) (by simp) (by simp) ⟨⟨hm D,YP (o:=0) (by omega) (by omega) hD2⟩,_,_,hi3,rfl⟩
end
end Go.Ab
namespace Go.Ab
open Go Go.Proofs
end Go.Ab
namespace Go.Ab
open Go Go.Proofs
/-! ### Rounded inverses-/
def js(n:Nat)(l:List ExV)(low:Int):List ExV:=gl n (fun i j=>((afS n l).getD (i*n+j) ex0).over (jE n l) low 0) (n*n)
theorem afQ{n:Nat}{l:List ExV}:(afS n l).length=n*n:=zp
theorem arG(n:Nat)(l:List ExV)(y:ExV)(low:Int)(i j:Nat)(hn:n≤4)(hi:i<n)(hj:j<n)(hl:l.length=n*n)(hb:gbd (-40000) 40100 l)(hy:y.bd (-40000) 40100)(h0:y.m≠0)(hlo: -300≤low∧low≤300):
  Con Tryz.prog 206 false [.v (.int .i64 i),.v (.int .i64 j),.fp [.v (.int .i64 n),.sl l.length (qm ExV.cs l)] 0,.fp [.v (.bool y.s),.sl (lim y.m).length (qc (lim y.m)),.v (.int .i64 y.e)] 0,.fp [.v (.int .i64 low)] 0] [] (isA (.ag [.v (.bool ((l.getD (i*n+j) ex0).over y low 0).s),.sl (lim ((l.getD (i*n+j) ex0).over y low 0).m).length (qc (lim ((l.getD (i*n+j) ex0).over y low 0).m)),.v (.int .i64 ((l.getD (i*n+j) ex0).over y low 0).e)])):=by
 refine Con.frzA ?_
 have hx:=qQ hi hj
 have hq:=jK hn
 have c1:=yn n l i j (by omega) (by omega) (by omega) (by omega) (by omega)
 have b1:=qK hb (show i*n+j<l.length by omega)
 generalize l.getD (i*n+j) ex0=x at*
 have c2:=aaN x y low 0 h0 (b1.mono (by omega) (by omega)) (hy.mono (by omega) (by omega)) (by omega)
 generalize x.over y low 0=z at*
 refine Con.of_w (rs:=[.cell 7 118]) Tryz.func206 rfl Tryz.ntmps206 rfl ?_
 simp(disch:=omega)only[go_sem]
 refine qq rfl [⟨0,[],[]⟩,⟨1,[0],[]⟩,⟨2,[0],[]⟩,⟨4,[0],[]⟩,⟨5,[0,4],[]⟩,⟨10,[0,4,5],[]⟩,⟨3,[4,5],[100000000]⟩,⟨6,[],[100000000]⟩,⟨7,[],[100000000]⟩,⟨8,[],[100000000]⟩,⟨9,[],[100000000]⟩,⟨11,[],[]⟩,⟨12,[],[]⟩] (by kernel_rfl) ?_
 simp(disch:=omega)only[go_sem]
 refine qa (c1) ?_
 simp(disch:=omega)only[go_sem]
 refine qa (c2) ?_
 simp(disch:=omega)only[go_sem]
 exact qh
theorem afR{n:Nat}{L:List ExV}(h4:n≤4)(hl:L.length=n*n)(hd:gbd (-10000) 10000 L):gbd (-40000) 40100 (afS n L):=za (aL4 h4 hl hd) (by omega) (by omega)
set_option maxRecDepth 100000 in
theorem aeS(n:Nat)(l:List ExV)(low:Int)(hn:n≤4)(hl:l.length=n*n)(hd:gbd (-10000) 10000 l)(h0:(jE n l).m≠0)(hlo: -300≤low∧low≤300):Con Tryz.prog 128 false [.ag [.v (.int .i64 (n)),.sl (l).length (qm ExV.cs (l))],.v (.int .i64 low)] [] (isA (.tu [.ag [.v (.int .i64 (n)),.sl (js n l low).length (qm ExV.cs (js n l low))],.v (.bool true)])):=by
 refine Con.frzA ?_
 have c1:=ae1 n l hn hl hd
 have c2:=aD6 n l hn hl hd
 have by':=(Q5 n hn hl hd).mono (show(-40000:Int)≤_ by omega) (show _≤(40100:Int) by omega)
 have c:=zB n 206 [.fp [.v (.int .i64 n),.sl (afS n l).length (qm ExV.cs (afS n l))] 0,.fp [.v (.bool (jE n l).s),.sl (lim (jE n l).m).length (qc (lim (jE n l).m)),.v (.int .i64 (jE n l).e)] 0,.fp [.v (.int .i64 low)] 0] (fun i j=>((afS n l).getD (i*n+j) ex0).over (jE n l) low 0) hn
  (fun i j hi hj=>arG n (afS n l) (jE n l) low i j hn hi hj afQ (afR hn hl hd) by' h0 hlo) (by simp(disch:=omega)only[go_sem]) (fun h=>rfl) (fun h=>rfl) (fun ks=>by simp(disch:=omega)only[go_sem]) (fun ρ=>rfl)
 change Con _ _ _ _ _ (isA (.ag [.v (.int .i64 (n)),.sl (js n l low).length (qm ExV.cs (js n l low))]))at c
 have cz:=yW (jE n l).s (jE n l).m (jE n l).e
 rw[decide_eq_false h0]at cz
 generalize js n l low=Z at*
 generalize jE n l=y at*
 generalize afS n l=D at*
 refine Con.of_aw Tryz.func128 rfl Tryz.ntmps128 (by simp) (by simp) (by simp)
  (AW.seqLe (E:=[(2,.pt 2 0),(3,.fp [.v (.int .i64 low)] 0),(4,.pt 4 0)]) (H:=[(2,.own 0 [.v (.int .i64 n),.sl l.length (qm ExV.cs l)]),(4,.own 0 [.v (.int .i64 0),.v (.slice none 0 0)])]) (W.sound ?_)
   (AW.seqLe (E:=[(2,.pt 2 0),(3,.fp [.v (.int .i64 low)] 0),(4,.pt 4 0),(6,.fp [.v (.bool y.s),.sl (lim y.m).length (qc (lim y.m)),.v (.int .i64 y.e)] 0)]) (H:=[(2,.own 0 [.v (.int .i64 n),.sl l.length (qm ExV.cs l)]),(4,.own 0 [.v (.int .i64 0),.v (.slice none 0 0)])]) (W.sound ?_)
    (AW.seqLe (E:=[(2,.pt 2 0),(3,.fp [.v (.int .i64 low)] 0),(4,.pt 4 0),(6,.fp [.v (.bool y.s),.sl (lim y.m).length (qc (lim y.m)),.v (.int .i64 y.e)] 0)]) (H:=[(2,.own 0 [.v (.int .i64 n),.sl l.length (qm ExV.cs l)]),(4,.own 0 [.v (.int .i64 0),.v (.slice none 0 0)])]) (W.sound ?_)
     (AW.seqLe (E:=[(2,.pt 2 0),(3,.fp [.v (.int .i64 low)] 0),(4,.pt 4 0),(6,.fp [.v (.bool y.s),.sl (lim y.m).length (qc (lim y.m)),.v (.int .i64 y.e)] 0),(7,.fp [.v (.int .i64 n),.sl D.length (qm ExV.cs D)] 0)]) (H:=[(2,.own 0 [.v (.int .i64 n),.sl l.length (qm ExV.cs l)]),(4,.own 0 [.v (.int .i64 0),.v (.slice none 0 0)])]) (W.sound ?_) (W.sound ?_)))))
 ·show @W Tryz.prog 19 ⟨_⟩ ⟨_⟩ _ _
  simp(disch:=omega)only[go_sem]
  exact(Le.frz 50000000 (z:=0) (ks:=[.v (.int .i64 low)]) (by simp(disch:=omega)only[go_sem]) rfl (by simp(disch:=omega)only[go_sem])).trans (Le.lst [(2,40000000),(4,60000000)] _ _ rfl (by simp(disch:=omega)only[go_sem]) (by simp(disch:=omega)only[go_sem]))
 ·show @W Tryz.prog 19 ⟨_⟩ ⟨_⟩ _ _
  simp(disch:=omega)only[go_sem]
  refine qa (c1) ?_
  simp(disch:=omega)only[go_sem]
  exact(Le.frz 80000000 (z:=0) (ks:=[.v (.bool y.s),.sl (lim y.m).length (qc (lim y.m)),.v (.int .i64 y.e)]) (by simp(disch:=omega)only[go_sem]) rfl (by simp(disch:=omega)only[go_sem])).trans (Le.lst [] _ _ rfl (by simp(disch:=omega)only[go_sem]) (by simp(disch:=omega)only[go_sem]))
 ·show @W Tryz.prog 19 ⟨_⟩ ⟨_⟩ _ _
  simp(disch:=omega)only[go_sem]
  refine qk (cz) ?_
  simp(disch:=omega)only[go_sem]
  exact Le.lst [] _ _ rfl (by simp(disch:=omega)only[go_sem]) (by simp(disch:=omega)only[go_sem])
 ·show @W Tryz.prog 19 ⟨_⟩ ⟨_⟩ _ _
  simp(disch:=omega)only[go_sem]
  refine qa (c2) ?_
  simp(disch:=omega)only[go_sem]
  exact(Le.frz 90000000 (z:=0) (ks:=[.v (.int .i64 n),.sl D.length (qm ExV.cs D)]) (by simp(disch:=omega)only[go_sem]) rfl (by simp(disch:=omega)only[go_sem])).trans (Le.lst [] _ _ rfl (by simp(disch:=omega)only[go_sem]) (by simp(disch:=omega)only[go_sem]))
 show @W Tryz.prog 19 ⟨_⟩ ⟨fun x σ=>@q9 _ _ _ ⟨_⟩ _ ⟨_⟩ x σ⟩ _ _
 simp(disch:=omega)only[go_sem]
 refine qa (c) ?_
 simp(disch:=omega)only[go_sem]
 exact qh
theorem aaX(n:Nat)(l:List ExV)(low:Int)(hn:n≤4)(hl:l.length=n*n)(hd:gbd (-10000) 10000 l)(h0:(jE n l).m=0):Con Tryz.prog 128 false [.ag [.v (.int .i64 (n)),.sl (l).length (qm ExV.cs (l))],.v (.int .i64 low)] [] (isA (.tu [.ag [.v (.int .i64 0),.sl 0 []],.v (.bool false)])):=by
 refine Con.frzA ?_
 have c1:=ae1 n l hn hl hd
 have cz:=yW (jE n l).s (jE n l).m (jE n l).e
 rw[decide_eq_true h0]at cz
 generalize jE n l=y at*
 refine Con.of_w (rs:=[.cell 4 113,.tmp 5]) Tryz.func128 rfl Tryz.ntmps128 rfl ?_
 simp(disch:=omega)only[go_sem]
 refine qa (c1) ?_
 simp(disch:=omega)only[go_sem]
 refine qk (cz) ?_
 simp(disch:=omega)only[go_sem]
 exact qh
theorem aL3{n:Nat}{l:List ExV}{low:Int}(hn:n≤4)(hl:l.length=n*n)(hd:gbd (-10000) 10000 l)(hlo: -300≤low∧low≤300):gbd (-300) 81000 (js n l low):=
 aes fun i j hi hj=>(ExV.over_bd (hi:=80900) (qK (afR hn hl hd) (by rw[afQ];exact qQ hi hj)) (show(-40000:Int)≤(jE n l).e by have:=(Q5 n hn hl hd).2.1;omega) (by omega) (by omega)).mono (by omega) (by omega)
def Xu(n:Nat)(L:List ExV)(low:Int):ExV:=zw n (qZ n (qM n L (js n L low)) (gId n)) n
theorem aa8(n:Nat)(L:List ExV)(low:Int)(h:matV n L)(h0:(jE n L).m≠0)(hlo: -200≤low∧low≤200):Con Tryz.prog 49 false [.ag [.v (.int .i64 (n)),.sl (L).length (qm ExV.cs (L))],.v (.int .i64 low)] []
  (isA (if((js n L low).all ExV.fit&&(Xu n L low).fit)=true then .tu [.ag [.v (.int .i64 (n)),.sl ((js n L low).map ExV.can).length (qm ExV.cs ((js n L low).map ExV.can))],.ag [.v (.bool ((Xu n L low).can).s),.sl (lim ((Xu n L low).can).m).length (qc (lim ((Xu n L low).can).m)),.v (.int .i64 ((Xu n L low).can).e)],.v (.bool true)]else .tu [.ag [.v (.int .i64 0),.sl 0 []],.ag [.v (.bool (false)),.sl (lim (0)).length (qc (lim (0))),.v (.int .i64 (0))],.v (.bool false)])):=by
 refine Con.frzA ?_
 have hb:gbd (-10000) 10000 L:=za h.bd (by omega) (by omega)
 have hq:=jK h.n4
 have c1:=aeS n L low h.n4 h.len hb h0 (by omega)
 have cf:=Za low
 rw[decide_eq_true hlo.1,decide_eq_true hlo.2]at cf
 have bI:=aL3 (low:=low) h.n4 h.len hb (by omega)
 have lI:(js n L low).length=n*n:=zp
 have c2:=Yp n L (js n L low) h.n4 h.len lI h.bd3 (za bI (by omega) (by omega))
 have lT:(qM n L (js n L low)).length=n*n:=zp
 have bT:gbd (-10300) 91100 (qM n L (js n L low)):=aes fun i j hi hj=>(aeA hi hj (Nat.le_refl n) h.len lI h.bd bI (by omega)).mono (by omega) (by have:=h.n4;omega)
 have c3:=aeX n h.n4
 have c4:=Yq n (qM n L (js n L low)) (gId n) h.n4 lT yk (za bT (by omega) (by omega)) (za aqy (by omega) (by omega))
 have lM:(qZ n (qM n L (js n L low)) (gId n)).length=n*n:=zp
 have bM:gbd (-10300) 91200 (qZ n (qM n L (js n L low)) (gId n)):=za (J7 lT yk bT (za aqy (by omega) (by omega))) (by omega) (by omega)
 have c5:=QH n (qZ n (qM n L (js n L low)) (gId n)) h.n4 lM (za bM (by omega) (by omega))
 change Con _ _ _ _ _ (isA (.ag [.v (.bool (Xu n L low).s),.sl (lim (Xu n L low).m).length (qc (lim (Xu n L low).m)),.v (.int .i64 (Xu n L low).e)]))at c5
 have bR:(Xu n L low).bd (-10300) 91300:=(Qx lM bM (by omega) n (Nat.le_refl n)).mono (by omega) (by have:=h.n4;omega)
 have c6:=y7 n (js n L low) (Xu n L low) (by omega) (za bI (by omega) (by omega)) (bR.mono (by omega) (by omega))
 generalize Xu n L low=R at*
 generalize qZ n (qM n L (js n L low)) (gId n)=D at*
 generalize qM n L (js n L low)=T at*
 generalize js n L low=X at*
 generalize gId n=I at*
 have lC:(X.map ExV.can).length=X.length:=List.length_map _
 rw[lC]
 generalize X.map ExV.can=XC at*
 cases hc:(X.all ExV.fit&&R.fit)
 ·rw[hc,if_neg (by simp)]at c6
  rw[if_neg (by simp)]
  refine Con.of_w (rs:=[.cell 4 25,.cell 5 40,.tmp 6]) Tryz.func49 rfl Tryz.ntmps49 rfl ?_
  simp(disch:=omega)only[go_sem]
  refine qk (ju n L h) ?_
  simp(disch:=omega)only[go_sem]
  refine qk (cf) ?_
  simp(disch:=omega)only[go_sem]
  refine qa (qO n L (by have:=h.l16;omega)) ?_
  simp(disch:=omega)only[go_sem]
  refine qa (c1) ?_
  simp(disch:=omega)only[go_sem]
  refine qq rfl [⟨0,[],[]⟩,⟨1,[0],[]⟩,⟨3,[0,1],[]⟩,⟨5,[0,1,3],[]⟩,⟨6,[0,1,3],[]⟩,⟨2,[0,3,6],[]⟩,⟨4,[0,6],[]⟩,⟨7,[0],[]⟩,⟨8,[0],[]⟩,⟨9,[0],[]⟩,⟨10,[],[]⟩,⟨11,[],[]⟩,⟨12,[],[]⟩,⟨13,[],[]⟩,⟨14,[],[]⟩,⟨15,[],[]⟩,⟨16,[],[]⟩] (by kernel_rfl) ?_
  simp(disch:=omega)only[go_sem]
  refine qa (qO n L (by have:=h.l16;omega)) ?_
  simp(disch:=omega)only[go_sem]
  refine qa (c2) ?_
  simp(disch:=omega)only[go_sem]
  refine qa (c3) ?_
  simp(disch:=omega)only[go_sem]
  refine qa (c4) ?_
  simp(disch:=omega)only[go_sem]
  refine qa (c5) ?_
  simp(disch:=omega)only[go_sem]
  refine qa (c6) ?_
  simp(disch:=omega)only[go_sem]
  exact qh (hp:=by simp(disch:=omega)only[go_sem,qn,List.length_nil,ja])
 ·rw[hc,if_pos rfl]at c6
  rw[if_pos rfl]
  refine Con.of_w (rs:=[.cell 4 25,.cell 5 40,.tmp 6]) Tryz.func49 rfl Tryz.ntmps49 rfl ?_
  simp(disch:=omega)only[go_sem]
  refine qk (ju n L h) ?_
  simp(disch:=omega)only[go_sem]
  refine qk (cf) ?_
  simp(disch:=omega)only[go_sem]
  refine qa (qO n L (by have:=h.l16;omega)) ?_
  simp(disch:=omega)only[go_sem]
  refine qa (c1) ?_
  simp(disch:=omega)only[go_sem]
  refine qq rfl [⟨0,[],[]⟩,⟨1,[0],[]⟩,⟨3,[0,1],[]⟩,⟨5,[0,1,3],[]⟩,⟨6,[0,1,3],[]⟩,⟨2,[0,3,6],[]⟩,⟨4,[0,6],[]⟩,⟨7,[0],[]⟩,⟨8,[0],[]⟩,⟨9,[0],[]⟩,⟨10,[],[]⟩,⟨11,[],[]⟩,⟨12,[],[]⟩,⟨13,[],[]⟩,⟨14,[],[]⟩,⟨15,[],[]⟩,⟨16,[],[]⟩] (by kernel_rfl) ?_
  simp(disch:=omega)only[go_sem]
  refine qa (qO n L (by have:=h.l16;omega)) ?_
  simp(disch:=omega)only[go_sem]
  refine qa (c2) ?_
  simp(disch:=omega)only[go_sem]
  refine qa (c3) ?_
  simp(disch:=omega)only[go_sem]
  refine qa (c4) ?_
  simp(disch:=omega)only[go_sem]
  refine qa (c5) ?_
  simp(disch:=omega)only[go_sem]
  refine qa (c6) ?_
  simp(disch:=omega)only[go_sem]
  exact qh
theorem aa9(n:Nat)(L:List ExV)(low:Int)(h:matV n L)(h0:(jE n L).m=0)(hlo: -200≤low∧low≤200):Con Tryz.prog 49 false [.ag [.v (.int .i64 (n)),.sl (L).length (qm ExV.cs (L))],.v (.int .i64 low)] []
  (isA (.tu [.ag [.v (.int .i64 0),.sl 0 []],.ag [.v (.bool (false)),.sl (lim (0)).length (qc (lim (0))),.v (.int .i64 (0))],.v (.bool false)])):=by
 refine Con.frzA ?_
 have hb:gbd (-10000) 10000 L:=za h.bd (by omega) (by omega)
 have c1:=aaX n L low h.n4 h.len hb h0
 have cf:=Za low
 rw[decide_eq_true hlo.1,decide_eq_true hlo.2]at cf
 rw[qn]
 refine Con.of_w (rs:=[.cell 4 25,.cell 5 40,.tmp 6]) Tryz.func49 rfl Tryz.ntmps49 rfl ?_
 simp(disch:=omega)only[go_sem]
 refine qk (ju n L h) ?_
 simp(disch:=omega)only[go_sem]
 refine qk (cf) ?_
 simp(disch:=omega)only[go_sem]
 refine qa (qO n L (by have:=h.l16;omega)) ?_
 simp(disch:=omega)only[go_sem]
 refine qa (c1) ?_
 simp(disch:=omega)only[go_sem]
 exact qh
theorem JQ(k:Int)(M:List DyV)(low:Int)(h1:M.length≤16)(h2:∀d∈M,d.xs.length≤200)(h:(J5 k M&&(decide (-200≤low)&&decide (low≤200)))=false):Con Tryz.prog 49 false [.ag [.v (.int .i64 k),.sl M.length (qm DyV.cs M)],.v (.int .i64 low)] []
  (isA (.tu [.ag [.v (.int .i64 0),.sl 0 []],.ag [.v (.bool (false)),.sl (lim (0)).length (qc (lim (0))),.v (.int .i64 (0))],.v (.bool false)])):=by
 refine Con.frzA ?_
 have c:=yX k M h1 h2
 have cf:=Za low
 rw[qn]
 refine Con.of_w (rs:=[.cell 4 25,.cell 5 40,.tmp 6]) Tryz.func49 rfl Tryz.ntmps49 rfl ?_
 simp(disch:=omega)only[go_sem]
 cases hb:J5 k M
 ·rw[hb]at c
  refine qk (c) ?_
  simp(disch:=omega)only[go_sem]
  exact qh
 ·rw[hb,Bool.true_and]at h
  rw[hb]at c
  rw[h]at cf
  refine qk (c) ?_
  simp(disch:=omega)only[go_sem]
  refine qk (cf) ?_
  simp(disch:=omega)only[go_sem]
  exact qh
end Go.Ab
namespace Go.Ab
open Go Go.Proofs
section
variable (l:List UInt8)(hl:l.length≤9223372036854775807)(i h:Int)(hi:0≤i∧i≤l.length)
include hl hi
theorem akB:Con Tryz.prog 102 false [.pt 10000000 0] [.own 0 [.sl l.length (ql l),.v (.int .i64 i),.v (.int .i64 h)]] (Y9 l fun r=>∃k:Int,(-201≤k∧k≤201)∧r=.v (.int .i64 k)):=by
 refine Con.of_aw Tryz.func102 rfl Tryz.ntmps102 (by simp) (by simp) (by simp) (W.sound ?_)
 show @W Tryz.prog 6 ⟨_⟩ ⟨fun x σ=>@q9 _ _ _ ⟨_⟩ _ ⟨_⟩ x σ⟩ _ _
 simp(disch:=omega)only[go_sem]
 refine jC (zv l hl i h hi [0, -10, -20,5, -200,200, -201,201, -3, -60] (by simp) (by simp)) ?_
 rintro r i1 h1 hi1 ⟨y,hy,rfl⟩
 have hy_b: -201≤y∧y≤201:=by
  simp only[List.mem_cons,List.not_mem_nil,or_false]at hy
  omega
 clear hy
 simp(disch:=omega)only[go_sem]
 refine qU (i1) (h1) ⟨y,by omega,rfl⟩
end
end Go.Ab
namespace Go.Ab
/-! ### How far a rounded inverse is off-/
theorem aF1{f:Nat→Int}{c:Int}(hc:0≤c):∀{k:Nat},(∀j,j<k→2*f j≤c)→2*zX f k≤c
 |0,_=>by simpa [zX]using hc
 |k+1,h=>by
  have h1:=aF1 hc (k:=k) fun j hj=>h j (by omega)
  have h2:=h k (by omega)
  rw[zX];split<;>omega
theorem aFI{f:Nat→Int}{c:Int}:∀{k:Nat},(∀j,j<k→2*f j≤c)→2*qx f k≤k*c
 |0,_=>by simp[qx]
 |k+1,h=>by
  have h1:=aFI (k:=k) fun j hj=>h j (by omega)
  have h2:=h k (by omega)
  rw[qx,Int.natCast_add,Int.add_mul,Int.mul_add]
  omega
theorem bfa{G:Nat→Nat→Int}{n:Nat}{c:Int}(hc:0≤c)(h:∀i j,i<n→j<n→2*((G i j).natAbs:Int)≤c):2*nrm G n≤n*c:=
 aF1 (Int.mul_nonneg (by omega) hc) fun j hj=>aFI fun i hi=>h i j hi hj
theorem aqr{n:Nat}(hn:n≤4){A X J:Nat→Nat→Int}{dt P Q c D:Int}(hdt:dt≠0)(hP:0<P)(hc:0≤c)(hJ:∀i j,i<n→j<n→ji n A J i j=if i=j then dt else 0)
  (hX:∀i j,i<n→j<n→2*(((X i j*dt*P-J i j*Q).natAbs:Nat):Int)≤(dt.natAbs:Int)*(c*P)) (hQ:Q=D*P):
  nrm (fun i j=>ji n A X i j-if i=j then D else 0) n≤nrm A n*(n*c):=by
 have hdp:dt*P≠0:=fun h=>by rcases Int.mul_eq_zero.1 h with h|h<;>omega
 have e1:∀i j,i<n→j<n→(ji n A X i j-if i=j then D else 0)*(dt*P)=qx (fun t=>A i t*(X t j*dt*P-J t j*Q)) n:=fun i j hi hj=>by
  have e2:qx (fun t=>A i t*(X t j*dt*P-J t j*Q)) n=qx (fun t=>A i t*X t j) n*(dt*P)-qx (fun t=>A i t*J t j) n*Q:=by
   rw[←jr,←jr,Int.sub_eq_add_neg,←K4,←Qn]
   exact qD fun t _=>by grind
  rw[e2]
  have e3:=hJ i j hi hj
  have e4:ji n A X i j=qx (fun t=>A i t*X t j) n:=rfl
  have e5:ji n A J i j=qx (fun t=>A i t*J t j) n:=rfl
  rw[←e4,←e5,e3,Int.sub_mul,hQ]
  split<;>grind
 have s1:=apR (n:=n) (A:=fun i j=>ji n A X i j-if i=j then D else 0) (C:=fun i j=>qx (fun t=>A i t*(X t j*dt*P-J t j*Q)) n) hdp (fun i j hi hj=>(e1 i j hi hj).symm)
 have s2:=aK9 (n:=n) (A:=A) (B:=fun i j=>X i j*dt*P-J i j*Q) (C:=fun i j=>qx (fun t=>A i t*(X t j*dt*P-J t j*Q)) n) (fun i j _ _=>rfl)
 have s3:=bfa (n:=n) (G:=fun i j=>X i j*dt*P-J i j*Q) (c:=(dt.natAbs:Int)*(c*P)) (Int.mul_nonneg (by omega) (Int.mul_nonneg hc (by omega))) hX
 have hA:=QU A n
 have ha:(((dt*P).natAbs:Nat):Int)=dt.natAbs*P:=by
  rw[Int.natAbs_mul,Int.natCast_mul]
  have:((P.natAbs:Nat):Int)=P:=by omega
  rw[this]
 rw[ha]at s1
 generalize nrm (fun i j=>ji n A X i j-if i=j then D else 0) n=N at*
 generalize nrm (fun i j=>X i j*dt*P-J i j*Q) n=G at*
 rw[s1]at s2
 have s4:nrm A n*(2*G)≤nrm A n*(n*(dt.natAbs*(c*P))):=Int.mul_le_mul_of_nonneg_left s3 hA
 have hpos:0<(dt.natAbs:Int)*P:=Int.mul_pos (by omega) hP
 have s5:(2*N)*((dt.natAbs:Int)*P)≤(nrm A n*(n*c))*((dt.natAbs:Int)*P):=by
  have:nrm A n*(n*((dt.natAbs:Int)*(c*P)))=(nrm A n*(n*c))*((dt.natAbs:Int)*P):=by grind
  have h2:nrm A n*(2*G)=2*(nrm A n*G):=by grind
  have h3:(2*N)*((dt.natAbs:Int)*P)=2*(N*(dt.natAbs*P)):=by grind
  omega
 have s6:=Int.le_of_mul_le_mul_right s5 hpos
 have hNn:0≤nrm A n*(n*c):=Int.mul_nonneg hA (Int.mul_nonneg (by omega) hc)
 omega
end Go.Ab
namespace Go.Ab
open Go Go.Proofs
theorem afA{K n:Nat}{L L':List ExV}{i j:Nat}(h:eK K L)(h':eK K L')(hl:L.length=n*n)(hl':L'.length=n*n)(hi:i<n)(hj:j<n):mv K (qZ n L L') n i j=mv K L n i j-mv K L' n i j:=by
 have a:=QF h (i:=i*n+j) (by rw[hl];exact qQ hi hj)
 have b:=QF h' (i:=i*n+j) (by rw[hl'];exact qQ hi hj)
 show(_:ExV).val _=_
 unfold qZ
 rw[akh hi hj,Qu (y:=ExV.neg _) a b,ap1];rfl
theorem aaB{K n:Nat}{L L':List ExV}(h:eK K L)(h':eK K L')(hl:L.length=n*n)(hl':L'.length=n*n):eK K (qZ n L L'):=fun x hx=>by
 unfold qZ gl at hx
 obtain⟨t,ht,rfl⟩:=List.mem_map.1 hx
 have ht:=List.mem_range.1 ht
 have hn:0<n:=Nat.pos_of_ne_zero fun e=>by subst e;simp at ht
 have hj:=Nat.mod_lt t hn
 have hi:t/n<n:=(Nat.div_lt_iff_lt_mul hn).2 ht
 have hm:=qQ hi hj
 exact aae (QF h (by rw[hl];exact hm)) (show _≤(ExV.neg _).e from QF h' (by rw[hl'];exact hm))
theorem aa7(n N:Nat)(T:List ExV)(h1:1≤n)(h4:n≤4)(h:optM n N T):Con Tryz.prog 51 false [.ag [.v (.int .i64 (N)),.sl (T).length (qm ExV.cs (T))]] []
  (fun r hs bs=>hs=[]∧bs=[]∧∃(z:ExV) (b:Bool),z.ok=true∧(b=true→N=n∧matV n T∧(zw n T n).fit=true∧z=(zw n T n).tel)∧r=.tu [.ag [.v (.bool (z).s),.sl (lim (z).m).length (qc (lim (z).m)),.v (.int .i64 (z).e)],.v (.bool b)]):=by
 rcases h with⟨rfl,hT⟩|⟨rfl,rfl⟩
 ·exact(Zm _ T hT).mono fun r hs bs ⟨a,b,c⟩=>⟨b,c,_,_,Zd _,fun hf=>⟨rfl,hT,hf,rfl⟩,a⟩
 ·have c:=JP ((0:Nat):Int) [] (by simp) (by simp) (aem [])
  exact c.mono fun r hs bs ⟨a,b,c⟩=>⟨b,c,ex0,false,J9,(fun h=>by cases h),a⟩
theorem JA(l:List UInt8)(hl:l.length≤9223372036854775807):Con Tryz.prog 48 false [.sl l.length (ql l)] [] (fun r hs bs=>hs=[]∧bs=[]∧∃(n:Int) (L:List DyV) (low:Int),bfl L∧(-201≤low∧low≤201)∧r=.tu [.ag [.v (.int .i64 n),.sl L.length (qm DyV.cs L)],.v (.int .i64 low)]):=by
 refine Con.of_aw Tryz.func48 rfl Tryz.ntmps48 (by simp) (by simp) (by simp) (W.sound ?_)
 show @W Tryz.prog 11 ⟨_⟩ ⟨fun x σ=>@q9 _ _ _ ⟨_⟩ _ ⟨_⟩ x σ⟩ _ _
 simp(disch:=omega)only[go_sem]
 refine qY (arB l hl) (by simp(disch:=omega)only[go_sem]) ?_
 rintro r hs ⟨rfl, -,⟨h,rfl⟩⟩
 refine⟨by simp(disch:=omega)only[go_sem],?_⟩
 simp(disch:=omega)only[go_sem]
 refine qv (JN l hl 0 h (by omega)) ?_
 rintro r i1 h1 hi1 ⟨k,L,hL1,hL2,rfl⟩
 simp(disch:=omega)only[go_sem]
 refine qv (akB l hl i1 h1 hi1) ?_
 rintro r i2 h2 hi2 ⟨low,hlow,rfl⟩
 simp(disch:=omega)only[go_sem]
 exact qT (by simp(disch:=omega)only[go_sem]) ⟨rfl,rfl,k,L,low,⟨hL1,hL2⟩,hlow,rfl⟩
set_option maxRecDepth 100000 in
set_option maxHeartbeats 4000000 in
theorem aav(l:List UInt8)(hl:l.length≤9223372036854775807):Con Tryz.prog 9 true [.sl l.length (ql l)] [] (isA (.v (.bool true))):=by
 refine Con.of_w (rs:=[.tmp 2]) Tryz.func9 rfl Tryz.ntmps9 rfl ?_
 simp(disch:=omega)only[go_sem]
 refine qY (JA l hl) (by simp(disch:=omega)only[go_sem]) ?_
 rintro r hs ⟨rfl, -,⟨k,M,low,⟨a1,a2⟩,hlow,rfl⟩⟩
 refine⟨by simp[qP],?_⟩
 simp(disch:=omega)only[go_sem]
 cases hA:(J5 k M&&(decide (-200≤low)&&decide (low≤200)))
 ·refine qa (JQ k M low a1 a2 hA) ?_
  simp(disch:=omega)only[go_sem]
  refine qk (Jy) ?_
  simp(disch:=omega)only[go_sem]
  exact qy
 simp only[Bool.and_eq_true,decide_eq_true_eq]at hA
 obtain⟨hA,hlo⟩:=hA
 obtain⟨n,L,rfl,rfl,hL⟩:=aF2 hA
 rw[yf,List.length_map]
 have h1:=hL.n1
 have h4:=hL.n4
 by_cases h0:(jE n L).m=0
 ·refine qa (aa9 n L low hL h0 hlo) ?_
  simp(disch:=omega)only[go_sem]
  refine qk (Jy) ?_
  simp(disch:=omega)only[go_sem]
  exact qy
 have cI:=aa8 n L low hL h0 hlo
 cases hf:((js n L low).all ExV.fit&&(Xu n L low).fit)
 ·rw[hf,if_neg (by simp)]at cI
  refine qa (cI) ?_
  simp(disch:=omega)only[go_sem]
  refine qk (Jy) ?_
  simp(disch:=omega)only[go_sem]
  exact qy
 rw[hf,if_pos rfl]at cI
 rw[Bool.and_eq_true]at hf
 obtain⟨hf1,hf2⟩:=hf
 have hb:gbd (-10000) 10000 L:=za hL.bd (by omega) (by omega)
 have lI:(js n L low).length=n*n:=zp
 have gX:matV n ((js n L low).map ExV.can):=(aet (l:=js n L low) h1 h4 lI hf1).2.2
 have eI:eK 200 (js n L low):=fun x hx=>by
  unfold js gl at hx
  obtain⟨t,ht,rfl⟩:=List.mem_map.1 hx
  show-((200:Nat):Int)≤low;omega
 have eX:eK 200 ((js n L low).map ExV.can):=fun x hx=>by
  obtain⟨y,hy,rfl⟩:=List.mem_map.1 hx
  exact aUp (eI y hy) (by omega)
 have vX:∀i j,i<n→j<n→mv 200 ((js n L low).map ExV.can) n i j=mv 200 (js n L low) n i j:=fun i j hi hj=>aFZ lI eI hi hj
 have eL:=hL.eK (K:=3000) (by omega)
 have rT:∀i j,i<n→j<n→mv (3000+200) (qM n L (js n L low)) n i j=ji n (mv 3000 L n) (mv 200 (js n L low) n) i j:=fun i j hi hj=>aCc eL eI hL.len lI hi hj
 have lT:(qM n L (js n L low)).length=n*n:=zp
 have eT:eK (3000+200) (qM n L (js n L low)):=fun x hx=>by
  unfold qM gl at hx
  obtain⟨t,ht,rfl⟩:=List.mem_map.1 hx
  have ht:=List.mem_range.1 ht
  have hj:=Nat.mod_lt t (show 0<n by omega)
  have hi:t/n<n:=(Nat.div_lt_iff_lt_mul (by omega)).2 ht
  exact(ZH eL eI hL.len lI hi hj n (Nat.le_refl n)).2
 have eId:eK (3000+200) (gId n):=fun x hx=>by have:=(aqy x hx).2.1;omega
 have lM:(qZ n (qM n L (js n L low)) (gId n)).length=n*n:=zp
 have rD:∀i j,i<n→j<n→mv (3000+200) (qZ n (qM n L (js n L low)) (gId n)) n i j=ji n (mv 3000 L n) (mv 200 (js n L low) n) i j-if i=j then p2 (3000+200)else 0:=fun i j hi hj=>by
  rw[afA eT eId lT yk hi hj,rT i j hi hj,aF8 hi hj];rfl
 have eM:eK (3000+200) (qZ n (qM n L (js n L low)) (gId n)):=aaB eT eId lT yk
 obtain⟨vR,eR⟩:=Z9 eM lM n (Nat.le_refl n)
 have oR:(Xu n L low).can.ok=true:=arW hf2
 have vFar:(Xu n L low).can.val (3000+200)=nrm (fun i j=>ji n (mv 3000 L n) (mv 200 (js n L low) n) i j-if i=j then p2 (3000+200)else 0) n:=by
  have e:(Xu n L low).val (3000+200)=nrm (mv (3000+200) (qZ n (qM n L (js n L low)) (gId n)) n) n:=vR
  rw[Zb (show-((3000+200:Nat):Int)≤(Xu n L low).e from eR),e]
  exact aal rD
 obtain⟨dv1,de1⟩:=Y7 (K:=3000) n L hL.len eL
 have hbnd:nrm (fun i j=>ji n (mv 3000 L n) (mv 200 (js n L low) n) i j-if i=j then p2 (3000+200)else 0) n≤nrm (mv 3000 L n) n*(n*p2 (low+200).toNat):=by
  refine aqr (J:=aED n (mv 3000 L n)) (dt:=jg n (mv 3000 L n)) (P:=p2 (3000*(n-1))) (Q:=p2 (3000*n+200)) h4 (fun h=>h0 ?_) (afB _) (Int.le_of_lt (afB _)) (fun i j hi hj=>ask h4 _ hi hj) (fun i j hi hj=>?_) ?_
  ·rw[←dv1]at h
   exact Ya.1 h
  ·obtain⟨g1,g2⟩:=aEE (K:=3000) hL.len eL hi hj
   have hn:=apO (Kz:=200) h0 g2 de1 (show-((200:Nat):Int)≤low by omega)
   have e1:mv 200 (js n L low) n i j=((asl n L i j).over (jE n L) low 0).val 200:=by
    unfold mv js
    rw[akh hi hj]
    unfold afS
    rw[akh hi hj]
   rw[e1,←g1,←dv1,←yx]
   exact hn
  ·exact aCg (by omega)
 have hZ:∀P D:List ExV,matV n P→matV n D→P=(qM n L ((js n L low).map ExV.can)).map ExV.can→D=(qZ n P (gId n)).map ExV.can→nrm (mv 3200 D n) n=nrm (fun i j=>ji n (mv 3000 L n) (mv 200 (js n L low) n) i j-if i=j then p2 (3000+200)else 0) n:=fun P D gP gD hP hD=>aal fun i j hi hj=>by
  have eP:eK (3000+200) P:=gP.eK (by omega)
  show mv (3000+200) D n i j=_
  rw[hD,aFZ (L:=qZ n P (gId n)) (show(qZ n P (gId n)).length=n*n from zp) (aaB eP eId gP.len yk) hi hj,afA eP eId gP.len yk hi hj,aF8 hi hj,hP,aCP eL eX hL.len gX.len hi hj]
  congr 1
  exact qD fun t ht=>by rw[vX t j ht hj]
 generalize nrm (fun i j=>ji n (mv 3000 L n) (mv 200 (js n L low) n) i j-if i=j then p2 (3000+200)else 0) n=NE at*
 have lX:=gX.len
 generalize (js n L low).map ExV.can=X at*
 generalize (Xu n L low).can=far at*
 refine qa (cI) ?_
 simp(disch:=omega)only[go_sem]
 refine qY (ae8 n n n L X h1 h4 (.inl ⟨rfl,hL⟩) (.inl ⟨rfl,gX⟩)) (by simp(disch:=omega)only[go_sem]) ?_
 rintro r hs ⟨rfl, -,NP,P,b1,oP,hP,rfl⟩
 refine⟨by simp[qP],?_⟩
 simp(disch:=omega)only[go_sem]
 refine qa (akQ n h1 h4) ?_
 simp(disch:=omega)only[go_sem]
 refine qY (ae5 n NP n P (gId n) h1 h4 oP (.inl ⟨rfl,aqx h1 h4⟩)) (by simp(disch:=omega)only[go_sem]) ?_
 rintro r hs ⟨rfl, -,ND,D,b2,oD,hD,rfl⟩
 refine⟨by simp[qP],?_⟩
 simp(disch:=omega)only[go_sem]
 refine qY (aa7 n ND D h1 h4 oD) (by simp(disch:=omega)only[go_sem]) ?_
 rintro r hs ⟨rfl, -,z,b3,oz,hz,rfl⟩
 refine⟨by simp[qP],?_⟩
 simp(disch:=omega)only[go_sem]
 have hsame:b1=true→b2=true→b3=true→z=far:=fun t1 t2 t3=>by
  obtain⟨-, -, -,⟨-,gP⟩,eP⟩:=hP t1
  obtain⟨-, -, -,⟨-,gD⟩,eD⟩:=hD t2
  obtain⟨-, -,hfz,ez⟩:=hz t3
  refine aPM (K:=3200) oz oR (by have:=(jH oz).1;omega) (by have:=(jH oR).1;omega) ?_
  rw[ez,afE (K:=3200) gD (by omega) hfz,hZ P D gP gD eP eD]
  exact vFar.symm
 have cN:=Zm n L hL
 have ow:=Zd (zw n L n)
 have vw:(zw n L n).fit=true→(zw n L n).tel.val 3000=nrm (mv 3000 L n) n:=fun hf=>afE hL (by omega) hf
 have cd:=aM2 n low (by omega) (by omega)
 have hdn:((ExV.mk (decide ((n:Int)<0)) (n:Int).natAbs low).tel.val 200=n*p2 (low+200).toNat):=by
  have b6:bl n≤3:=zC.2 (by omega)
  have hfit:(ExV.mk (decide ((n:Int)<0)) (n:Int).natAbs low).fit=true:=by
   rw[decide_eq_false (show ¬(n:Int)<0 by omega),Int.natAbs_natCast]
   show zS n low=true
   exact aaI (by omega) (by omega)
  rw[ad3 hfit,Zb (by show-((200:Nat):Int)≤low;omega),decide_eq_false (show ¬(n:Int)<0 by omega),Int.natAbs_natCast]
  rfl
 have odn:=Zd (ExV.mk (decide ((n:Int)<0)) (n:Int).natAbs low)
 have edn: -((200:Nat):Int)≤(ExV.mk (decide ((n:Int)<0)) (n:Int).natAbs low).tel.e:=by
  unfold ExV.tel
  split
  ·exact aUp (show-(200:Int)≤low by omega) (by omega)
  ·show-((200:Nat):Int)≤0;omega
 generalize (ExV.mk (decide ((n:Int)<0)) (n:Int).natAbs low).tel=dn at*
 generalize (zw n L n).tel=w at*
 generalize (zw n L n).fit=b4 at*
 have cm:=aD4 w dn b4 ow odn
 have om:=Zd (w.times dn)
 have hmost:((w.times dn).fit&&b4)=true→far.val 3000≤(w.times dn).tel.val 3000:=fun hf=>by
  rw[Bool.and_eq_true]at hf
  have r1:=(jH ow).1.1
  rw[(aOf 200 oR om).1,ad3 hf.1,Zb (by show _≤w.e+dn.e;omega),ZM (by omega) edn,vw hf.2,hdn,vFar]
  exact hbnd
 have cc:=arM far (w.times dn).tel oR om
 have hcm:((w.times dn).fit&&b4)=true→decide (zy (far.val 3000) ((w.times dn).tel.val 3000)≤0)=true:=fun hf=>decide_eq_true ((afc _ _).1.2 (hmost hf))
 generalize (w.times dn).tel=m at*
 generalize hb5:((w.times dn).fit&&b4)=b5 at*
 rcases b1 with _|_
 rotate_left
 rcases b2 with _|_
 rotate_left
 rcases b3 with _|_
 rotate_left
 simp(disch:=omega)only[go_sem]
 have cs:=arc z far oz oR
 rw[decide_eq_true (hsame rfl rfl rfl)]at cs
 refine qk (cs) ?_
 simp(disch:=omega)only[go_sem]
 all_goals
  try simp(disch:=omega)only[go_sem]
  refine qa (cN) ?_
  simp(disch:=omega)only[go_sem]
  refine qq rfl [⟨0,[],[]⟩,⟨1,[0],[]⟩,⟨2,[0],[]⟩,⟨3,[0,2],[]⟩,⟨5,[0,2],[]⟩,⟨10,[0,2],[]⟩,⟨4,[0],[200000000]⟩,⟨6,[],[200000000]⟩,⟨7,[],[200000000]⟩,⟨8,[],[200000000]⟩,⟨9,[],[200000000]⟩,⟨11,[],[]⟩,⟨12,[],[]⟩] (by kernel_rfl) ?_
  simp(disch:=omega)only[go_sem]
  refine qa (cd) ?_
  simp(disch:=omega)only[go_sem]
  refine qa (cm) ?_
  simp(disch:=omega)only[go_sem]
  cases b5
  ·simp(disch:=omega)only[go_sem]
   exact qy
  ·simp(disch:=omega)only[go_sem]
   refine qk (cc) ?_
   simp(disch:=omega)only[go_sem]
   simp(disch:=omega)only[go_sem,hcm rfl]
   exact qy
end Go.Ab
namespace Go.Proofs.YtcobffkepgogiaaGreatDoor
open Go.ChangeShapes Go.WideShapes Go.ChangeAt Go.RowKit Go.Ab
theorem own:ownKnob Tryz.prog.godebug=none:=by kernel_rfl
theorem aqg:laidOutB Tryz.prog=true:=by kernel_rfl
theorem apk:Tryz.prog.globalNamed "math/bits.deBruijn64tab" =some 1:=by kernel_rfl
theorem aJW:(Tryz.prog.globals[1]?).map (·.type)=some 262:=by kernel_rfl
theorem aJV:Tryz.prog.underlying 262=some (.array 64 5):=by kernel_rfl
theorem aJZ:Tryz.prog.underlying 5=some (.int .u8):=by kernel_rfl
theorem aJ0:Tryz.prog.cellsOf 5=1:=by kernel_rfl
theorem aJX:Tryz.prog.cellsOf 262=64:=by kernel_rfl
noncomputable def yS:List (String×DataW Unit):=[("math/bits.deBruijn32tab",Rows.laid_math_bits_deBruijn32tab),("math/bits.deBruijn64tab",Rows.laid_math_bits_deBruijn64tab)]
theorem aJY{W:World}(h:laidMetH Tryz.prog yS W):Gd W:=by
 have h':laidMet Tryz.prog yS W:=h
 have h2:laidMet Tryz.prog [("math/bits.deBruijn64tab",Lib.tabData .u8 (Lib.deBruijn64tab.map Int.ofNat))] W:=laidMet.tail h'
 have hT:=Lib.tabIs_of_head apk aJW aJV aJZ aJ0 aJX h2
 intro g l hg
 unfold glb at hg
 split at hg
 ·rename_i e
  subst e
  cases hg
  have hc:∀i,i<Lib.deBruijn64tab.length→W.cell? ⟨1,i,none⟩=some (.int .u8 ((Lib.deBruijn64tab.getD i 0:Nat):Int)):=fun i hi=>by
   have:=hT.cell apk i (by simpa using hi)
   rw[this]
   simp[List.getD,hi]
  exact⟨af5 (hc 0 (by decide)),hc⟩
 ·cases hg
noncomputable def aaw(os:Os):World:=
 let w0:=World.holding Tryz.prog os ⟨#[],#[],[]⟩
 {w0 with heap:=(w0.heap.modify 1 fun
   | .cells _ t frozen=>.cells (Lib.deBruijn64tab.map fun z=>Value.int .u8 (Int.ofNat z)).toArray t frozen
   |o=>o).modify 0 fun
   | .cells _ t frozen=>.cells (Lib.deBruijn32tab.map fun z=>Value.int .u8 (Int.ofNat z)).toArray t frozen
   |o=>o}
theorem YV(os:Os)(args:Array Value):laidMetH Tryz.prog yS ((aaw os).forCall (fun _ _=>0) ⟨#[],args,[]⟩).memory:=
 laidMetH_of_parts (laidMet_of_run' 8 (by kernel_rfl) (by kernel_rfl)) (by kernel_rfl)
end Go.Proofs.YtcobffkepgogiaaGreatDoor
