/- What the proof of this claim stands on: the walks of the functions and the plain laws, part 6. -/
import Derived.Test.YtgkehjnacdccfaaGreatDoorFnRootsLib5
import Derived.Test.YtgkehjnacdccfaaGreatDoorRows
import Derived.Test.YtgkehjnacdccfaaGreatDoorCards
import Derived.Test.YtgkehjnacdccfaaGreatDoorTie
import Derived.Handed
import Derived.ChangeSame
import Derived.JoinedOf
import Derived.RowKit
import Derived.WalkKit
import Derived.ProofKit
import Derived.OpenShut
import Derived.LaidLaws
import Derived.LaidHandle
import Derived.SevenTiedAt
import Derived.Stop.LaidErr
import Derived.Lib.LaidTab
set_option linter.unusedVariables false
set_option linter.unusedSimpArgs false
namespace Go.Ab
/-! ### Determinants of integers-/
def sgI(k:Nat):Int:=if k % 2=1 then-1 else 1
def skp(r i:Nat):Nat:=if i<r then i else i+1
def amr(A:Nat→Nat→Int)(r c:Nat):Nat→Nat→Int:=fun i j=>A (skp r i) (skp c j)
def jk:Nat→(Nat→Nat→Int)→Int
 |0,_=>1
 |n+1,A=>qD (fun j=>sgI j*(A 0 j*jk n (amr A 0 j))) (n+1)
theorem auv(A:Nat→Nat→Int):jk 1 A=A 0 0:=by
 simp[jk,qD,sgI]
theorem amw(A:Nat→Nat→Int):jk 2 A=A 0 0*A 1 1-A 0 1*A 1 0:=by
 simp[jk,qD,sgI,amr,skp];omega
theorem amv(A:Nat→Nat→Int):jk 3 A=A 0 0*(A 1 1*A 2 2-A 1 2*A 2 1)-A 0 1*(A 1 0*A 2 2-A 1 2*A 2 0)+A 0 2*(A 1 0*A 2 1-A 1 1*A 2 0):=by
 rw[jk]
 simp only[amw,qD,sgI,amr,skp]
 simp
 omega
theorem aJw(A:Nat→Nat→Int):jk 4 A=(A 0 0*A 1 1-A 0 1*A 1 0)*(A 2 2*A 3 3-A 2 3*A 3 2)-(A 0 0*A 1 2-A 0 2*A 1 0)*(A 2 1*A 3 3-A 2 3*A 3 1)
  +(A 0 0*A 1 3-A 0 3*A 1 0)*(A 2 1*A 3 2-A 2 2*A 3 1)+(A 0 1*A 1 2-A 0 2*A 1 1)*(A 2 0*A 3 3-A 2 3*A 3 0)
  -(A 0 1*A 1 3-A 0 3*A 1 1)*(A 2 0*A 3 2-A 2 2*A 3 0)+(A 0 2*A 1 3-A 0 3*A 1 2)*(A 2 0*A 3 1-A 2 1*A 3 0):=by
 rw[jk]
 simp only[amv,qD,sgI,amr,skp]
 simp
 grind
end Go.Ab
namespace Go.Ab
theorem aHb{n:Nat}(hn:n≤4)(A:Nat→Nat→Int):jk n (fun i j=>A j i)=jk n A:=by
 rcases(show n=0∨n=1∨n=2∨n=3∨n=4 by omega)with rfl|rfl|rfl|rfl|rfl
 ·rfl
 ·rw[auv,auv]
 ·rw[amw,amw];grind
 ·rw[amv,amv];grind
 ·rw[aJw,aJw];grind
theorem yz:∀{n:Nat} {A B:Nat→Nat→Int},(∀i j,i<n→j<n→A i j=B i j)→jk n A=jk n B
 |0,_,_,_=>rfl
 |n+1,A,B,h=>by
  rw[jk,jk]
  refine qI fun j hj=>?_
  rw[h 0 j (by omega) hj,yz (n:=n) (A:=amr A 0 j) (B:=amr B 0 j) fun i k hi hk=>?_]
  unfold amr skp
  exact h _ _ (by split<;>omega) (by split<;>omega)
def m2(A:Nat→Nat→Int)(r s c d:Nat):Int:=A r c*A s d-A r d*A s c
theorem aaZ(A:Nat→Nat→Int):jk 4 A=m2 A 0 1 0 1*m2 A 2 3 2 3-m2 A 0 1 0 2*m2 A 2 3 1 3+m2 A 0 1 0 3*m2 A 2 3 1 2+m2 A 0 1 1 2*m2 A 2 3 0 3-m2 A 0 1 1 3*m2 A 2 3 0 2+m2 A 0 1 2 3*m2 A 2 3 0 1:=aJw A
def yl(n:Nat)(A B:Nat→Nat→Int):Nat→Nat→Int:=fun i j=>qD (fun t=>A i t*B t j) n
theorem biC(A B:Nat→Nat→Int)(i j:Nat):yl 4 A B i j=A i 0*B 0 j+A i 1*B 1 j+A i 2*B 2 j+A i 3*B 3 j:=by
 simp[yl,qD]
theorem biD(A B:Nat→Nat→Int)(i j:Nat):yl 3 A B i j=A i 0*B 0 j+A i 1*B 1 j+A i 2*B 2 j:=by
 simp[yl,qD]
theorem biE(A B:Nat→Nat→Int)(i j:Nat):yl 2 A B i j=A i 0*B 0 j+A i 1*B 1 j:=by
 simp[yl,qD]
theorem biF(A B:Nat→Nat→Int)(i j:Nat):yl 1 A B i j=A i 0*B 0 j:=by
 simp[yl,qD]
theorem aT7(A B:Nat→Nat→Int)(r s c d:Nat):m2 (yl 4 A B) r s c d=m2 A r s 0 1*m2 B 0 1 c d+m2 A r s 0 2*m2 B 0 2 c d+m2 A r s 0 3*m2 B 0 3 c d+m2 A r s 1 2*m2 B 1 2 c d+m2 A r s 1 3*m2 B 1 3 c d+m2 A r s 2 3*m2 B 2 3 c d:=by
 simp only[m2,biC]
 grind
def q4(B:Nat→Nat→Int)(p q r s:Nat):Int:=m2 B p q 0 1*m2 B r s 2 3-m2 B p q 0 2*m2 B r s 1 3+m2 B p q 0 3*m2 B r s 1 2+m2 B p q 1 2*m2 B r s 0 3-m2 B p q 1 3*m2 B r s 0 2+m2 B p q 2 3*m2 B r s 0 1
theorem Qn(B:Nat→Nat→Int)(p q s:Nat):q4 B p q p s=0:=by unfold q4 m2;grind
theorem aFB(B:Nat→Nat→Int)(p q r:Nat):q4 B p q r p=0:=by unfold q4 m2;grind
theorem aFA(B:Nat→Nat→Int)(p q s:Nat):q4 B p q q s=0:=by unfold q4 m2;grind
theorem aau(B:Nat→Nat→Int)(p q r:Nat):q4 B p q r q=0:=by unfold q4 m2;grind
theorem bkX(B:Nat→Nat→Int):q4 B 0 1 2 3=jk 4 B:=(aaZ B).symm
theorem bkW(B:Nat→Nat→Int):q4 B 0 2 1 3= -jk 4 B:=by rw[aaZ];unfold q4 m2;grind
theorem bkV(B:Nat→Nat→Int):q4 B 0 3 1 2=jk 4 B:=by rw[aaZ];unfold q4 m2;grind
theorem bkU(B:Nat→Nat→Int):q4 B 1 2 0 3=jk 4 B:=by rw[aaZ];unfold q4 m2;grind
theorem bkT(B:Nat→Nat→Int):q4 B 1 3 0 2= -jk 4 B:=by rw[aaZ];unfold q4 m2;grind
theorem bkS(B:Nat→Nat→Int):q4 B 2 3 0 1=jk 4 B:=by rw[aaZ];unfold q4 m2;grind
theorem as0(A B:Nat→Nat→Int):jk 4 (yl 4 A B)=m2 A 0 1 0 1*m2 A 2 3 0 1*q4 B 0 1 0 1+m2 A 0 1 0 1*m2 A 2 3 0 2*q4 B 0 1 0 2+m2 A 0 1 0 1*m2 A 2 3 0 3*q4 B 0 1 0 3+m2 A 0 1 0 1*m2 A 2 3 1 2*q4 B 0 1 1 2+m2 A 0 1 0 1*m2 A 2 3 1 3*q4 B 0 1 1 3+m2 A 0 1 0 1*m2 A 2 3 2 3*q4 B 0 1 2 3+m2 A 0 1 0 2*m2 A 2 3 0 1*q4 B 0 2 0 1+m2 A 0 1 0 2*m2 A 2 3 0 2*q4 B 0 2 0 2+m2 A 0 1 0 2*m2 A 2 3 0 3*q4 B 0 2 0 3+m2 A 0 1 0 2*m2 A 2 3 1 2*q4 B 0 2 1 2+m2 A 0 1 0 2*m2 A 2 3 1 3*q4 B 0 2 1 3+m2 A 0 1 0 2*m2 A 2 3 2 3*q4 B 0 2 2 3+m2 A 0 1 0 3*m2 A 2 3 0 1*q4 B 0 3 0 1+m2 A 0 1 0 3*m2 A 2 3 0 2*q4 B 0 3 0 2+m2 A 0 1 0 3*m2 A 2 3 0 3*q4 B 0 3 0 3+m2 A 0 1 0 3*m2 A 2 3 1 2*q4 B 0 3 1 2+m2 A 0 1 0 3*m2 A 2 3 1 3*q4 B 0 3 1 3+m2 A 0 1 0 3*m2 A 2 3 2 3*q4 B 0 3 2 3+m2 A 0 1 1 2*m2 A 2 3 0 1*q4 B 1 2 0 1+m2 A 0 1 1 2*m2 A 2 3 0 2*q4 B 1 2 0 2+m2 A 0 1 1 2*m2 A 2 3 0 3*q4 B 1 2 0 3+m2 A 0 1 1 2*m2 A 2 3 1 2*q4 B 1 2 1 2+m2 A 0 1 1 2*m2 A 2 3 1 3*q4 B 1 2 1 3+m2 A 0 1 1 2*m2 A 2 3 2 3*q4 B 1 2 2 3+m2 A 0 1 1 3*m2 A 2 3 0 1*q4 B 1 3 0 1+m2 A 0 1 1 3*m2 A 2 3 0 2*q4 B 1 3 0 2+m2 A 0 1 1 3*m2 A 2 3 0 3*q4 B 1 3 0 3+m2 A 0 1 1 3*m2 A 2 3 1 2*q4 B 1 3 1 2+m2 A 0 1 1 3*m2 A 2 3 1 3*q4 B 1 3 1 3+m2 A 0 1 1 3*m2 A 2 3 2 3*q4 B 1 3 2 3+m2 A 0 1 2 3*m2 A 2 3 0 1*q4 B 2 3 0 1+m2 A 0 1 2 3*m2 A 2 3 0 2*q4 B 2 3 0 2+m2 A 0 1 2 3*m2 A 2 3 0 3*q4 B 2 3 0 3+m2 A 0 1 2 3*m2 A 2 3 1 2*q4 B 2 3 1 2+m2 A 0 1 2 3*m2 A 2 3 1 3*q4 B 2 3 1 3+m2 A 0 1 2 3*m2 A 2 3 2 3*q4 B 2 3 2 3:=by
 rw[aaZ]
 simp only[aT7]
 simp only[q4]
 grind
theorem aHd(A B:Nat→Nat→Int):jk 4 (yl 4 A B)=jk 4 A*jk 4 B:=by
 rw[as0]
 rw[Qn B 0 1 1,Qn B 0 1 2,Qn B 0 1 3,aFA B 0 1 2,aFA B 0 1 3,Qn B 0 2 1,Qn B 0 2 2,Qn B 0 2 3,aau B 0 2 1,aFA B 0 2 3,Qn B 0 3 1,Qn B 0 3 2,Qn B 0 3 3,aau B 0 3 1,aau B 0 3 2,aFB B 1 2 0,aau B 1 2 0,Qn B 1 2 2,Qn B 1 2 3,aFA B 1 2 3,aFB B 1 3 0,aau B 1 3 0,Qn B 1 3 2,Qn B 1 3 3,aau B 1 3 2,aFB B 2 3 0,aau B 2 3 0,aFB B 2 3 1,aau B 2 3 1,Qn B 2 3 3]
 rw[bkX,bkW,bkV,bkU,bkT,bkS,aaZ A]
 grind
theorem Jo{n:Nat}(hn:n≤4)(A B:Nat→Nat→Int):jk n (yl n A B)=jk n A*jk n B:=by
 rcases(show n=0∨n=1∨n=2∨n=3∨n=4 by omega)with rfl|rfl|rfl|rfl|rfl
 ·rfl
 ·rw[auv,auv,auv,biF]
 ·rw[amw,amw,amw];simp only[biE];grind
 ·rw[amv,amv,amv];simp only[biD];grind
 ·exact aHd A B
end Go.Ab
namespace Go.Ab
def aRV(n:Nat)(A:Nat→Nat→Int)(k j:Nat):Int:=sgI (k+j)*jk (n-1) (amr A j k)
theorem aRw{n:Nat}(hn:n≤4)(A:Nat→Nat→Int){i j:Nat}(hi:i<n)(hj:j<n):yl n A (aRV n A) i j=if i=j then jk n A else 0:=by
 rcases(show n=1∨n=2∨n=3∨n=4 by omega)with rfl|rfl|rfl|rfl
 ·obtain rfl:i=0:=by omega
  obtain rfl:j=0:=by omega
  rw[biF,auv,if_pos rfl]
  simp[aRV,sgI,jk]
 ·simp only[biE,aRV,amw,show 2-1=1 from rfl,auv]
  rcases(show i=0∨i=1 by omega)with rfl|rfl<;>rcases(show j=0∨j=1 by omega)with rfl|rfl<;>(simp[sgI,amr,skp];try grind)
 ·simp only[biD,aRV,amv,show 3-1=2 from rfl,amw]
  rcases(show i=0∨i=1∨i=2 by omega)with rfl|rfl|rfl<;>rcases(show j=0∨j=1∨j=2 by omega)with rfl|rfl|rfl<;>(simp[sgI,amr,skp];try grind)
 ·simp only[biC,aRV,aJw,show 4-1=3 from rfl,amv]
  rcases(show i=0∨i=1∨i=2∨i=3 by omega)with rfl|rfl|rfl|rfl<;>rcases(show j=0∨j=1∨j=2∨j=3 by omega)with rfl|rfl|rfl|rfl<;>(simp[sgI,amr,skp];try grind)
end Go.Ab
namespace Go.Ab
open Go Go.Proofs
/-! ### What determinants are worth-/
end Go.Ab
namespace Go.Ab
open Go Go.Proofs
/-! ### Turned matrices-/
def blf(n:Nat)(l:List ExV):List ExV:=gl n (fun i j=>l.getD (j*n+i) ex0) (n*n)
end Go.Ab
namespace Go.Ab
open Go Go.Proofs
/-! ### Adjugates and minors-/
def aRx(n:Nat)(l:List ExV)(a b:Nat):ExV:=(jG (n-1) (mnR n l b a n)).sgn (b+a)
def alu(n:Nat)(l:List ExV):List ExV:=gl n (aRx n l) (n*n)
theorem ar6{n:Nat}{l:List ExV}{r c:Nat}(hr:r<n)(hc:c<n):(mnR n l r c n).length=(n-1)*(n-1):=by rw[Qs hc,if_pos hr]
theorem aT5{n:Nat}{l:List ExV}{lo hi:Int}{r c:Nat}(hl:l.length=n*n)(hb:gbd lo hi l):gbd lo hi (mnR n l r c n):=fun x hx=>hb x (Z1 hl n (Nat.le_refl n) x hx)
theorem atC(n:Nat)(l:List ExV)(a b:Nat)(hn:n≤4)(ha:a<n)(hb:b<n)(hl:l.length=n*n)(hd:gbd (-10000) 10000 l):
  Con Tryz.prog 310 false [.v (.int .i64 a),.v (.int .i64 b),.fp [.v (.int .i64 n),.sl l.length (ql ExV.cs l)] 0] [] (isA (.ag [.v (.bool (aRx n l a b).s),.sl (lim (aRx n l a b).m).length (qc (lim (aRx n l a b).m)),.v (.int .i64 (aRx n l a b).e)])):=by
 refine Con.frzA ?_
 have cm:=aa6 n l b a (by omega) hl hb ha
 have cd:=afG (n-1) (mnR n l b a n) (by omega) (ar6 hb ha) (aT5 hl hd)
 rw[show((n:Int)-1)=((n-1:Nat):Int) by omega]at cm
 unfold aRx
 generalize jG (n-1) (mnR n l b a n)=y at*
 generalize mnR n l b a n=M at*
 have cs:=Yi y (b+a) (by omega)
 rw[Int.natCast_add]at cs
 generalize y.sgn (b+a)=z at*
 refine Con.of_w (rs:=[.cell 5 117]) Tryz.func310 rfl Tryz.ntmps310 rfl ?_
 simp(disch:=omega)only[go_sem]
 refine qa (cm) ?_
 simp(disch:=omega)only[go_sem]
 refine qa (cd) ?_
 simp(disch:=omega)only[go_sem]
 refine qa (cs) ?_
 simp(disch:=omega)only[go_sem]
 exact qj
theorem aHp(n:Nat)(l:List ExV)(hn:n≤4)(hl:l.length=n*n)(hd:gbd (-10000) 10000 l):Con Tryz.prog 269 false [.ag [.v (.int .i64 (n)),.sl (l).length (ql ExV.cs (l))]] [] (isA (.ag [.v (.int .i64 (n)),.sl (alu n l).length (ql ExV.cs (alu n l))])):=by
 refine Con.frzA ?_
 have c:=zz n 310 [.fp [.v (.int .i64 n),.sl l.length (ql ExV.cs l)] 0] (aRx n l) hn (fun i j hi hj=>atC n l i j hn hi hj hl hd) (by simp(disch:=omega)only[go_sem]) (fun h=>rfl) (fun h=>rfl) (fun ks=>by simp(disch:=omega)only[go_sem]) (fun ρ=>rfl)
 change Con _ _ _ _ _ (isA (.ag [.v (.int .i64 (n)),.sl (alu n l).length (ql ExV.cs (alu n l))]))at c
 refine Con.of_aw Tryz.func269 rfl Tryz.ntmps269 (by simp) (by simp) (by simp) (AW.seqLe (E:=[(1,.fp [.v (.int .i64 n),.sl l.length (ql ExV.cs l)] 0),(2,.pt 0 0)]) (H:=[(0,.own 0 [.v (.int .i64 0),.v (.slice none 0 0)])]) (W.sound ?_) (W.sound ?_))
 ·show @W Tryz.prog 7 ⟨_⟩ ⟨_⟩ _ _
  simp(disch:=omega)only[go_sem]
  exact(Le.frz 30000000 (z:=0) (ks:=[.v (.int .i64 n),.sl l.length (ql ExV.cs l)]) (by simp(disch:=omega)only[go_sem]) rfl (by simp(disch:=omega)only[go_sem])).trans (Le.lst [(0,40000000)] _ _ rfl (by simp(disch:=omega)only[go_sem]) (by simp(disch:=omega)only[go_sem]))
 show @W Tryz.prog 7 ⟨_⟩ ⟨fun x σ=>@q9 _ _ _ ⟨_⟩ _ ⟨_⟩ x σ⟩ _ _
 simp(disch:=omega)only[go_sem]
 refine qa (c) ?_
 simp(disch:=omega)only[go_sem]
 exact qj
theorem aPE{n:Nat}{l:List ExV}(h4:n≤4)(hl:l.length=n*n)(hd:gbd (-10000) 10000 l):gbd (-30000) 30013 (alu n l):=
 aaQ fun i j hi hj=>ExV.sgn_bd ((Q2 (n-1) (by omega) (ar6 hj hi) (aT5 hl hd)).mono (by omega) (by omega))
end Go.Ab
namespace Go.Ab
open Go
section
variable {X:Type}{f:X→List AV}{z:Nat}
end
end Go.Ab
namespace Go.Ab
open Go Go.Proofs
section
variable (l:List UInt8)(hl:l.length≤9223372036854775807)(i h:Int)(hi:0≤i∧i≤l.length)
include hl hi
def bla(r:AV):Prop:=∃L:List DyV,L.length≤101∧(∀d∈L,d.xs.length≤200)∧r=.sl L.length (ql DyV.cs L)
end
end Go.Ab
namespace Go.Ab
open Go Go.Proofs
/-! ### Polynomials of a matrix-/
def biA(n:Nat)(L:List ExV):Nat→List ExV
 |0=>gId n
 |k+1=>qY n (biA n L k) L
def bkN(n:Nat)(L p:List ExV):Nat→List ExV
 |0=>zy n (gId n) ex0
 |k+1=>jC n (bkN n L p k) (zy n (biA n L k) (p.getD k ex0))
theorem Qd{n:Nat}{l:List ExV}{y:ExV}{a b c d:Int}(hl:l.length=n*n)(h:gbd a b l)(hy:y.bd c d):gbd (a+c) (b+d) (zy n l y):=
 aaQ fun i j hi hj=>ExV.times_bd (qJ h (by rw[hl];exact qS hi hj)) hy
theorem aUo{n:Nat}:gbd 0 1 (gId n):=fun x hx=>by
 unfold gId gl at hx
 obtain⟨t,ht,rfl⟩:=List.mem_map.1 hx
 unfold idF;split<;>decide+kernel
end Go.Ab
namespace Go.Ab
def idI(i j:Nat):Int:=if i=j then 1 else 0
def biz(n:Nat)(A:Nat→Nat→Int):Nat→Nat→Nat→Int
 |0=>idI
 |k+1=>yl n (biz n A k) A
def pm3(A:Nat→Nat→Int)(r:Nat):Int:=jk 3 (amr A r r)
end Go.Ab
namespace Go.Ab
/-! ### Ranks-/
theorem ZK{f:Nat→Int}{k:Nat}:∀{m:Nat},k≤m→(∀i,k≤i→f i=0)→qD f m=qD f k
 |0,h,_=>by
  obtain rfl:k=0:=by omega
  rfl
 |m+1,h,hz=>by
  by_cases e:k=m+1
  ·rw[e]
  ·rw[qD,ZK (by omega) hz,hz m (by omega),Int.add_zero]
def akX(n k:Nat)(A:Nat→Nat→Int):Prop:=∃(c:Int) (B C:Nat→Nat→Int),c≠0∧∀i j,i<n→j<n→c*A i j=qD (fun t=>B i t*C t j) k
theorem QR{n k:Nat}{A A':Nat→Nat→Int}(h:∀i j,i<n→j<n→A i j=A' i j):akX n k A→akX n k A'
 |⟨c,B,C,h0,h1⟩=>⟨c,B,C,h0,fun i j hi hj=>by rw[←h i j hi hj];exact h1 i j hi hj⟩
theorem aai{n k:Nat}{A:Nat→Nat→Int}:akX n k A→akX n k (fun i j=>A j i)
 |⟨c,B,C,h0,h1⟩=>⟨c,fun i t=>C t i,fun t j=>B j t,h0,fun i j hi hj=>by
  rw[h1 j i hj hi];exact qI fun t _=>Int.mul_comm _ _⟩
theorem YA(n k:Nat)(f:Nat→Int)(g:Nat→Nat→Int)(h:Nat→Int):qD (fun s=>qD (fun t=>f t*g t s) k*h s) n=qD (fun t=>f t*qD (fun s=>g t s*h s) n) k:=by
 have e1:qD (fun s=>qD (fun t=>f t*g t s) k*h s) n=qD (fun s=>qD (fun t=>f t*(g t s*h s)) k) n:=
  qI fun s _=>by rw[←JX];exact qI fun t _=>Int.mul_assoc _ _ _
 have e2:qD (fun t=>f t*qD (fun s=>g t s*h s) n) k=qD (fun t=>qD (fun s=>f t*(g t s*h s)) n) k:=
  qI fun t _=>by rw[←yF]
 rw[e1,e2,JY]
theorem arc{n k:Nat}{A:Nat→Nat→Int}(D:Nat→Nat→Int):akX n k A→akX n k (yl n A D)
 |⟨c,B,C,h0,h1⟩=>⟨c,B,yl n C D,h0,fun i j hi hj=>by
  show c*qD (fun t=>A i t*D t j) n=qD (fun t=>B i t*qD (fun s=>C t s*D s j) n) k
  rw[←YA,←yF]
  exact qI fun s hs=>by rw[←h1 i s hi hs,Int.mul_assoc]⟩
theorem aaj{n k:Nat}{A:Nat→Nat→Int}(D:Nat→Nat→Int):akX n k A→akX n k (yl n D A)
 |⟨c,B,C,h0,h1⟩=>⟨c,yl n D B,C,h0,fun i j hi hj=>by
  show c*qD (fun t=>D i t*A t j) n=qD (fun t=>qD (fun s=>D i s*B s t) n*C t j) k
  rw[YA,←yF]
  exact qI fun s hs=>by rw[←h1 s j hs hj,Int.mul_left_comm]⟩
def dgI(c:Int)(i j:Nat):Int:=if i=j then c else 0
theorem aT2{n:Nat}(c:Int)(A:Nat→Nat→Int){i j:Nat}(hi:i<n):yl n (dgI c) A i j=c*A i j:=by
 unfold yl
 rw[jq (j:=i) hi (fun t _ hne=>by unfold dgI;rw[if_neg (fun h=>hne h.symm),Int.zero_mul])]
 unfold dgI;rw[if_pos rfl]
theorem aYR{n:Nat}(hn:n≤4){c:Int}(hc:c≠0):jk n (dgI c)≠0:=by
 rcases(show n=0∨n=1∨n=2∨n=3∨n=4 by omega)with rfl|rfl|rfl|rfl|rfl
 ·intro h;cases h
 ·rw[auv];simp[dgI,hc]
 ·rw[amw];simp[dgI,hc]
 ·rw[amv];simp[dgI,hc]
 ·rw[aJw];simp[dgI,hc]
theorem aHc{n:Nat}(hn:n≤4)(h1:1≤n){A:Nat→Nat→Int}(h:∀i,A i (n-1)=0):jk n A=0:=by
 rcases(show n=1∨n=2∨n=3∨n=4 by omega)with rfl|rfl|rfl|rfl
 ·have:=h 0
  rw[auv];simpa using this
 ·have h:∀i,A i 1=0:=h
  rw[amw];simp[h]
 ·have h:∀i,A i 2=0:=h
  rw[amv];simp[h]
 ·have h:∀i,A i 3=0:=h
  rw[aJw];simp[h]
theorem aEX{n k:Nat}(hn:n≤4)(hk:k<n){A:Nat→Nat→Int}:akX n k A→jk n A=0
 |⟨c,B,C,h0,h1⟩=>by
  have e:jk n (yl n (dgI c) A)=jk n (yl n (fun i t=>if t<k then B i t else 0) C):=yz fun i j hi hj=>by
   rw[aT2 c A hi,h1 i j hi hj]
   show _=qD (fun t=>(if t<k then B i t else 0)*C t j) n
   rw[ZK (f:=fun t=>(if t<k then B i t else 0)*C t j) (k:=k) (by omega) (fun t ht=>by rw[if_neg (by omega),Int.zero_mul])]
   exact qI fun t ht=>by rw[if_pos ht]
  rw[Jo hn,Jo hn,aHc hn (by omega) (A:=fun i t=>if t<k then B i t else 0) (fun i=>if_neg (by omega)),Int.zero_mul]at e
  exact(Int.mul_eq_zero.1 e).resolve_left (aYR hn h0)
theorem asY{r:Nat}(hr:r≤4){T:Nat→Nat→Int}(hd:∀t,t<r→T t t≠0)(hz:∀s t,t<s→s<r→T s t=0):jk r T≠0:=by
 rcases(show r=0∨r=1∨r=2∨r=3∨r=4 by omega)with rfl|rfl|rfl|rfl|rfl
 ·intro h;cases h
 ·rw[auv];exact hd 0 (by omega)
 ·rw[amw,hz 1 0 (by omega) (by omega)]
  simp[hd 0 (by omega),hd 1 (by omega)]
 ·rw[amv,hz 1 0 (by omega) (by omega),hz 2 0 (by omega) (by omega),hz 2 1 (by omega) (by omega)]
  simp[hd 0 (by omega),hd 1 (by omega),hd 2 (by omega)]
 ·rw[aJw,hz 1 0 (by omega) (by omega),hz 2 0 (by omega) (by omega),hz 2 1 (by omega) (by omega),hz 3 0 (by omega) (by omega),hz 3 1 (by omega) (by omega),hz 3 2 (by omega) (by omega)]
  simp[hd 0 (by omega),hd 1 (by omega),hd 2 (by omega),hd 3 (by omega)]
structure isRank(n:Nat)(A:Nat→Nat→Int)(r:Nat):Prop where
 le:r≤n
 up:akX n r A
 low:∀k,akX n k A→r≤k
 full:r=n→jk n A≠0
theorem isRank.turn{n r s:Nat}{A:Nat→Nat→Int}(h:isRank n A r)(g:isRank n (fun i j=>A j i) s):s=r:=
 Nat.le_antisymm (g.low r (aai h.up)) (h.low s (aai g.up))
theorem isRank.congr{n r:Nat}{A B:Nat→Nat→Int}(h:isRank n A r)(e:∀i j,i<n→j<n→A i j=B i j):isRank n B r:=
 ⟨h.le,QR e h.up,fun k hk=>h.low k (QR (fun i j hi hj=>(e i j hi hj).symm) hk),fun hr=>by rw[←yz e];exact h.full hr⟩
theorem isRank.mul{n r s t:Nat}{A B:Nat→Nat→Int}(h:isRank n A r)(g:isRank n B s)(p:isRank n (yl n A B) t):t≤r∧t≤s:=
 ⟨p.low r (arc B h.up),p.low s (aaj A g.up)⟩
structure elim(n:Nat)(A C:Nat→Nat→Int)(r j:Nat):Prop where
 le:r≤n
 rj:r≤j
 u:∃U:Nat→Nat→Int,jk n U≠0∧∀i k,i<n→k<n→C i k=yl n U A i k
 p:∃p:Nat→Nat,∀t,t<r→p t<j∧p t<n∧C t (p t)≠0∧∀s,t<s→s<n→C s (p t)=0
 z:∀i k,r≤i→i<n→k<j→k<n→C i k=0
theorem J8(n:Nat)(A B C:Nat→Nat→Int)(i j:Nat):yl n (yl n A B) C i j=yl n A (yl n B C) i j:=
 YA n n (fun t=>A i t) B (fun s=>C s j)
theorem elim.rank{n:Nat}(hn:n≤4){A C:Nat→Nat→Int}{r:Nat}(h:elim n A C r n):isRank n A r:=by
 obtain⟨hle, -,⟨U,hU,hC⟩,⟨p,hp⟩,hz⟩:=h
 have lowC:∀k,akX n k C→r≤k:=fun k hk=>by
  rcases Nat.lt_or_ge k r with g|g
  ·exfalso
   obtain⟨c,B,D,h0,h1⟩:=hk
   have ht:akX r k (fun s t=>C s (p t)):=⟨c,B,fun u t=>D u (p t),h0,fun s t hs ht=>h1 s (p t) (by omega) (hp t ht).2.1⟩
   exact asY (by omega) (fun t ht=>(hp t ht).2.2.1) (fun s t hst hs=>(hp t (by omega)).2.2.2 s hst (by omega)) (aEX (by omega) g ht)
  ·exact g
 refine⟨hle,?_,fun k hk=>lowC k (QR (fun i j hi hj=>(hC i j hi hj).symm) (aaj U hk)),fun hr hd=>?_⟩
 ·
  obtain⟨V,hV⟩:∃V:Nat→Nat→Int,∀i j,i<n→j<n→yl n V U i j=if i=j then jk n U else 0:=by
   refine⟨fun i j=>aRV n (fun a b=>U b a) j i,fun i j hi hj=>?_⟩
   have:=aRw hn (fun a b=>U b a) hj hi
   rw[aHb hn]at this
   have e2:(if i=j then jk n U else 0)=if j=i then jk n U else 0:=by
    by_cases e:i=j
    ·rw[if_pos e,if_pos e.symm]
    ·rw[if_neg e,if_neg (fun h=>e h.symm)]
   rw[e2,←this]
   exact qI fun t _=>Int.mul_comm _ _
  refine⟨jk n U,V,C,hU,fun i j hi hj=>?_⟩
  have e1:qD (fun t=>V i t*C t j) r=qD (fun t=>V i t*C t j) n:=by
   have:qD (fun t=>V i t*C t j) n=qD (fun t=>if t<r then V i t*C t j else 0) n:=qI fun t ht=>by
    by_cases g:t<r
    ·rw[if_pos g]
    ·rw[if_neg g,hz t j (by omega) ht hj hj,Int.mul_zero]
   rw[this,ZK hle (fun t ht=>if_neg (by omega))]
   exact qI fun t ht=>by rw[if_pos ht]
  rw[e1]
  have e2:qD (fun t=>V i t*C t j) n=yl n (yl n V U) A i j:=by
   rw[J8]
   exact qI fun t ht=>by rw[hC t j ht hj]
  rw[e2]
  show _=qD (fun t=>yl n V U i t*A t j) n
  rw[jq (j:=i) hi (fun t ht hne=>by rw[hV i t hi ht,if_neg (fun h=>hne h.symm),Int.zero_mul]),hV i i hi hi,if_pos rfl]
 ·subst hr
  have h1:jk r C=0:=by
   rw[yz hC,Jo hn,hd,Int.mul_zero]
  have h2:jk r (yl r C (fun u t=>if u=p t then 1 else 0))=0:=by rw[Jo hn,h1,Int.zero_mul]
  refine asY hn (T:=fun s t=>C s (p t)) (fun t ht=>(hp t ht).2.2.1) (fun s t hst hs=>(hp t (by omega)).2.2.2 s hst (by omega)) ?_
  rw[←h2]
  refine yz fun i j hi hj=>?_
  show C i (p j)=qD (fun u=>C i u*(if u=p j then 1 else 0)) r
  rw[jq (j:=p j) (hp j hj).2.1 (fun t _ hne=>by rw[if_neg hne,Int.mul_zero]),if_pos rfl,Int.mul_one]
theorem elim.skip{n:Nat}{A C:Nat→Nat→Int}{r j:Nat}(h:elim n A C r j)(hz:∀i,r≤i→i<n→C i j=0):elim n A C r (j+1):=by
 obtain⟨h1,h2,h3,⟨p,hp⟩,h5⟩:=h
 refine⟨h1,by omega,h3,⟨p,fun t ht=>⟨by have:=(hp t ht).1;omega,(hp t ht).2⟩⟩,fun i k hi hin hk hkn=>?_⟩
 rcases(show k<j∨k=j by omega)with g|rfl
 ·exact h5 i k hi hin g hkn
 ·exact hz i hi hin
def swI(a b i:Nat):Nat:=if i=a then b else if i=b then a else i
theorem asZ{n:Nat}(hn:n≤4){a r:Nat}(ha:a<n)(hr:r<n)(hne:a≠r)(p q:Int)(hp:p≠0):jk n (fun i j=>if i=a then(if j=a then p else if j=r then-q else 0)else if i=j then 1 else 0)≠0:=by
 rcases(show n=1∨n=2∨n=3∨n=4 by omega)with rfl|rfl|rfl|rfl
 ·omega
 ·rw[amw]
  rcases(show a=0∨a=1 by omega)with rfl|rfl<;>rcases(show r=0∨r=1 by omega)with rfl|rfl<;>first|omega|simp[hp]
 ·rw[amv]
  rcases(show a=0∨a=1∨a=2 by omega)with rfl|rfl|rfl<;>rcases(show r=0∨r=1∨r=2 by omega)with rfl|rfl|rfl<;>first|omega|simp[hp]
 ·rw[aJw]
  rcases(show a=0∨a=1∨a=2∨a=3 by omega)with rfl|rfl|rfl|rfl<;>rcases(show r=0∨r=1∨r=2∨r=3 by omega)with rfl|rfl|rfl|rfl<;>first|omega|simp[hp]
structure elimR(n:Nat)(A C:Nat→Nat→Int)(r j m:Nat):Prop where
 rn:r<n
 rj:r≤j
 jn:j<n
 rm:r<m
 u:∃U:Nat→Nat→Int,jk n U≠0∧∀i k,i<n→k<n→C i k=yl n U A i k
 p:∃p:Nat→Nat,∀t,t<r→p t<j∧p t<n∧C t (p t)≠0∧∀s,t<s→s<n→C s (p t)=0
 z:∀i k,r≤i→i<n→k<j→k<n→C i k=0
 pv:C r j≠0
 zm:∀i,r<i→i<m→i<n→C i j=0
theorem elim.pivot{n:Nat}{A C:Nat→Nat→Int}{r j:Nat}(h:elim n A C r j)(hr:r<n)(hj:j<n)(hp:C r j≠0):elimR n A C r j (r+1):=
 ⟨hr,h.rj,hj,by omega,h.u,h.p,h.z,hp,fun i h1 h2=>by omega⟩
theorem elimR.done{n:Nat}{A C:Nat→Nat→Int}{r j m:Nat}(h:elimR n A C r j m)(hm:n≤m):elim n A C (r+1) (j+1):=by
 obtain⟨h1,h2,h3,h4,h5,⟨p,hp⟩,h7,h8,h9⟩:=h
 refine⟨by omega,by omega,h5,⟨fun t=>if t=r then j else p t,fun t ht=>?_⟩,fun i k hi hin hk hkn=>?_⟩
 ·dsimp only
  by_cases e:t=r
  ·rw[if_pos e,e]
   exact⟨by omega,h3,h8,fun s hs hsn=>h9 s hs (by omega) hsn⟩
  ·rw[if_neg e]
   obtain⟨a,b,c,d⟩:=hp t (by omega)
   exact⟨by omega,b,c,d⟩
 ·rcases(show k<j∨k=j by omega)with g|rfl
  ·exact h7 i k (by omega) hin g hkn
  ·exact h9 i (by omega) (by omega) hin
theorem elimR.step{n:Nat}(hn:n≤4){A C C':Nat→Nat→Int}{r j m:Nat}(h:elimR n A C r j m)(hm:m<n)(h1:∀i k,i<n→k<n→i≠m→C' i k=C i k)(h2:∀k,k<n→C' m k=C m k*C r j-C r k*C m j):elimR n A C' r j (m+1):=by
 obtain⟨g1,g2,g3,g4,⟨U,hU,hC⟩,⟨p,hp⟩,g7,g8,g9⟩:=h
 refine⟨g1,g2,g3,by omega,⟨yl n (fun i k=>if i=m then(if k=m then C r j else if k=r then-C m j else 0)else if i=k then 1 else 0) U,?_,fun i k hi hk=>?_⟩,⟨p,fun t ht=>?_⟩,fun i k hi hin hk hkn=>?_,?_,fun i hi him hin=>?_⟩
 ·rw[Jo hn]
  intro e
  rcases Int.mul_eq_zero.1 e with e|e
  ·exact asZ hn hm g1 (by omega) (C r j) (C m j) g8 e
  ·exact hU e
 ·rw[J8]
  show C' i k=qD (fun t=>(if i=m then(if t=m then C r j else if t=r then-C m j else 0)else if i=t then 1 else 0)*yl n U A t k) n
  by_cases e:i=m
  ·subst e
   have e2:qD (fun t=>(if i=i then(if t=i then C r j else if t=r then-C i j else 0)else if i=t then 1 else 0)*yl n U A t k) n=qD (fun t=>(if t=i then C r j*C i k else 0)+(if t=r then-C i j*C r k else 0)) n:=qI fun t ht=>by
    rw[if_pos rfl,←hC t k ht hk]
    by_cases a:t=i
    ·rw[if_pos a,if_pos a,if_neg (show ¬t=r by omega),a,Int.add_zero]
    ·rw[if_neg a,if_neg a]
     by_cases b:t=r
     ·rw[if_pos b,if_pos b,b,Int.zero_add]
     ·rw[if_neg b,if_neg b,Int.zero_mul,Int.add_zero]
   rw[e2,ZL,jq (j:=i) hi (fun t _ hne=>if_neg hne),jq (j:=r) g1 (fun t _ hne=>if_neg hne),if_pos rfl,if_pos rfl,h2 k hk,Int.mul_comm (C i k),Int.neg_mul,Int.mul_comm (C r k)]
   omega
  ·rw[jq (j:=i) hi (fun t _ hne=>by rw[if_neg e,if_neg (fun h=>hne h.symm),Int.zero_mul]),if_neg e,if_pos rfl,Int.one_mul,h1 i k hi hk e]
   exact hC i k hi hk
 ·obtain⟨a,b,c,d⟩:=hp t ht
  refine⟨a,b,?_,fun s hts hsn=>?_⟩
  ·rw[h1 t (p t) (by omega) b (by omega)];exact c
  ·by_cases e:s=m
   ·rw[e,h2 _ b,d m (by omega) hm,d r (by omega) g1];simp
   ·rw[h1 s _ hsn b e];exact d s hts hsn
 ·by_cases e:i=m
  ·rw[e,h2 k hkn,g7 m k (by omega) hm hk hkn,g7 r k (by omega) g1 hk hkn];simp
  ·rw[h1 i k hin hkn e];exact g7 i k hi hin hk hkn
 ·rw[h1 r j g1 g3 (by omega)];exact g8
 ·by_cases e:i=m
  ·rw[e,h2 j g3,Int.mul_comm];omega
  ·rw[h1 i j hin g3 e];exact g9 i hi (by omega) hin
end Go.Ab
namespace Go.Ab
/-! ### Sums of powers of a matrix,at one scale-/
def p2(k:Nat):Int:=2^k
def blF(n:Nat)(P:Nat→Int)(A:Nat→Nat→Int)(m i j:Nat):Int:=qD (fun t=>P t*biz n A t i j*p2 (40000-3000*(t+1))) m
end Go.Ab
namespace Go.Ab
open Go Go.Proofs
/-! ### What polynomials of a matrix are worth-/
end Go.Ab
namespace Go.Ab
open Go Go.Proofs
/-! ### What rounded quotients are worth-/
end Go.Ab
namespace Go.Ab
open Go Go.Proofs
section
variable (l:List UInt8)(hl:l.length≤9223372036854775807)(i h:Int)(hi:0≤i∧i≤l.length)
include hl hi
end
end Go.Ab
namespace Go.Ab
open Go Go.Proofs
end Go.Ab
namespace Go.Ab
open Go Go.Proofs
/-! ### Rounded inverses-/
def yh(n:Nat)(l:List ExV)(low:Int):List ExV:=gl n (fun i j=>((alu n l).getD (i*n+j) ex0).over (jG n l) low 0) (n*n)
theorem agq{n:Nat}{l:List ExV}:(alu n l).length=n*n:=zg
theorem atA(n:Nat)(l:List ExV)(y:ExV)(low:Int)(i j:Nat)(hn:n≤4)(hi:i<n)(hj:j<n)(hl:l.length=n*n)(hb:gbd (-40000) 40100 l)(hy:y.bd (-40000) 40100)(h0:y.m≠0)(hlo: -300≤low∧low≤300):
  Con Tryz.prog 270 false [.v (.int .i64 i),.v (.int .i64 j),.fp [.v (.int .i64 n),.sl l.length (ql ExV.cs l)] 0,.fp [.v (.bool y.s),.sl (lim y.m).length (qc (lim y.m)),.v (.int .i64 y.e)] 0,.fp [.v (.int .i64 low)] 0] [] (isA (.ag [.v (.bool ((l.getD (i*n+j) ex0).over y low 0).s),.sl (lim ((l.getD (i*n+j) ex0).over y low 0).m).length (qc (lim ((l.getD (i*n+j) ex0).over y low 0).m)),.v (.int .i64 ((l.getD (i*n+j) ex0).over y low 0).e)])):=by
 refine Con.frzA ?_
 have hx:=qS hi hj
 have hq:=jv hn
 have c1:=yi n l i j (by omega) (by omega) (by omega) (by omega) (by omega)
 have b1:=qJ hb (show i*n+j<l.length by omega)
 generalize l.getD (i*n+j) ex0=x at*
 have c2:=aa4 x y low 0 h0 (b1.mono (by omega) (by omega)) (hy.mono (by omega) (by omega)) (by omega)
 generalize x.over y low 0=z at*
 refine Con.of_w (rs:=[.cell 7 117]) Tryz.func270 rfl Tryz.ntmps270 rfl ?_
 simp(disch:=omega)only[go_sem]
 refine qs rfl [⟨0,[],[]⟩,⟨1,[0],[]⟩,⟨2,[0],[]⟩,⟨4,[0],[]⟩,⟨5,[0,4],[]⟩,⟨10,[0,4,5],[]⟩,⟨3,[4,5],[100000000]⟩,⟨6,[],[100000000]⟩,⟨7,[],[100000000]⟩,⟨8,[],[100000000]⟩,⟨9,[],[100000000]⟩,⟨11,[],[]⟩,⟨12,[],[]⟩] (by kernel_rfl) ?_
 simp(disch:=omega)only[go_sem]
 refine qa (c1) ?_
 simp(disch:=omega)only[go_sem]
 refine qa (c2) ?_
 simp(disch:=omega)only[go_sem]
 exact qj
theorem agr{n:Nat}{L:List ExV}(h4:n≤4)(hl:L.length=n*n)(hd:gbd (-10000) 10000 L):gbd (-40000) 40100 (alu n L):=qw (aPE h4 hl hd) (by omega) (by omega)
set_option maxRecDepth 100000 in
theorem yc(n:Nat)(l:List ExV)(low:Int)(hn:n≤4)(hl:l.length=n*n)(hd:gbd (-10000) 10000 l)(h0:(jG n l).m≠0)(hlo: -300≤low∧low≤300):Con Tryz.prog 197 false [.ag [.v (.int .i64 (n)),.sl (l).length (ql ExV.cs (l))],.v (.int .i64 low)] [] (isA (.tu [.ag [.v (.int .i64 (n)),.sl (yh n l low).length (ql ExV.cs (yh n l low))],.v (.bool true)])):=by
 refine Con.frzA ?_
 have c1:=afG n l hn hl hd
 have c2:=aHp n l hn hl hd
 have by':=(Q2 n hn hl hd).mono (show(-40000:Int)≤_ by omega) (show _≤(40100:Int) by omega)
 have c:=zz n 270 [.fp [.v (.int .i64 n),.sl (alu n l).length (ql ExV.cs (alu n l))] 0,.fp [.v (.bool (jG n l).s),.sl (lim (jG n l).m).length (qc (lim (jG n l).m)),.v (.int .i64 (jG n l).e)] 0,.fp [.v (.int .i64 low)] 0] (fun i j=>((alu n l).getD (i*n+j) ex0).over (jG n l) low 0) hn
  (fun i j hi hj=>atA n (alu n l) (jG n l) low i j hn hi hj agq (agr hn hl hd) by' h0 hlo) (by simp(disch:=omega)only[go_sem]) (fun h=>rfl) (fun h=>rfl) (fun ks=>by simp(disch:=omega)only[go_sem]) (fun ρ=>rfl)
 change Con _ _ _ _ _ (isA (.ag [.v (.int .i64 (n)),.sl (yh n l low).length (ql ExV.cs (yh n l low))]))at c
 have cz:=yO (jG n l).s (jG n l).m (jG n l).e
 rw[decide_eq_false h0]at cz
 generalize yh n l low=Z at*
 generalize jG n l=y at*
 generalize alu n l=D at*
 refine Con.of_aw Tryz.func197 rfl Tryz.ntmps197 (by simp) (by simp) (by simp)
  (AW.seqLe (E:=[(2,.pt 2 0),(3,.fp [.v (.int .i64 low)] 0),(4,.pt 4 0)]) (H:=[(2,.own 0 [.v (.int .i64 n),.sl l.length (ql ExV.cs l)]),(4,.own 0 [.v (.int .i64 0),.v (.slice none 0 0)])]) (W.sound ?_)
   (AW.seqLe (E:=[(2,.pt 2 0),(3,.fp [.v (.int .i64 low)] 0),(4,.pt 4 0),(6,.fp [.v (.bool y.s),.sl (lim y.m).length (qc (lim y.m)),.v (.int .i64 y.e)] 0)]) (H:=[(2,.own 0 [.v (.int .i64 n),.sl l.length (ql ExV.cs l)]),(4,.own 0 [.v (.int .i64 0),.v (.slice none 0 0)])]) (W.sound ?_)
    (AW.seqLe (E:=[(2,.pt 2 0),(3,.fp [.v (.int .i64 low)] 0),(4,.pt 4 0),(6,.fp [.v (.bool y.s),.sl (lim y.m).length (qc (lim y.m)),.v (.int .i64 y.e)] 0)]) (H:=[(2,.own 0 [.v (.int .i64 n),.sl l.length (ql ExV.cs l)]),(4,.own 0 [.v (.int .i64 0),.v (.slice none 0 0)])]) (W.sound ?_)
     (AW.seqLe (E:=[(2,.pt 2 0),(3,.fp [.v (.int .i64 low)] 0),(4,.pt 4 0),(6,.fp [.v (.bool y.s),.sl (lim y.m).length (qc (lim y.m)),.v (.int .i64 y.e)] 0),(7,.fp [.v (.int .i64 n),.sl D.length (ql ExV.cs D)] 0)]) (H:=[(2,.own 0 [.v (.int .i64 n),.sl l.length (ql ExV.cs l)]),(4,.own 0 [.v (.int .i64 0),.v (.slice none 0 0)])]) (W.sound ?_) (W.sound ?_)))))
 ·show @W Tryz.prog 19 ⟨_⟩ ⟨_⟩ _ _
  simp(disch:=omega)only[go_sem]
  exact(Le.frz 50000000 (z:=0) (ks:=[.v (.int .i64 low)]) (by simp(disch:=omega)only[go_sem]) rfl (by simp(disch:=omega)only[go_sem])).trans (Le.lst [(2,40000000),(4,60000000)] _ _ rfl (by simp(disch:=omega)only[go_sem]) (by simp(disch:=omega)only[go_sem]))
 ·show @W Tryz.prog 19 ⟨_⟩ ⟨_⟩ _ _
  simp(disch:=omega)only[go_sem]
  refine qa (c1) ?_
  simp(disch:=omega)only[go_sem]
  exact(Le.frz 80000000 (z:=0) (ks:=[.v (.bool y.s),.sl (lim y.m).length (qc (lim y.m)),.v (.int .i64 y.e)]) (by simp(disch:=omega)only[go_sem]) rfl (by simp(disch:=omega)only[go_sem])).trans (Le.lst [] _ _ rfl (by simp(disch:=omega)only[go_sem]) (by simp(disch:=omega)only[go_sem]))
 ·show @W Tryz.prog 19 ⟨_⟩ ⟨_⟩ _ _
  simp(disch:=omega)only[go_sem]
  refine qn (cz) ?_
  simp(disch:=omega)only[go_sem]
  exact Le.lst [] _ _ rfl (by simp(disch:=omega)only[go_sem]) (by simp(disch:=omega)only[go_sem])
 ·show @W Tryz.prog 19 ⟨_⟩ ⟨_⟩ _ _
  simp(disch:=omega)only[go_sem]
  refine qa (c2) ?_
  simp(disch:=omega)only[go_sem]
  exact(Le.frz 90000000 (z:=0) (ks:=[.v (.int .i64 n),.sl D.length (ql ExV.cs D)]) (by simp(disch:=omega)only[go_sem]) rfl (by simp(disch:=omega)only[go_sem])).trans (Le.lst [] _ _ rfl (by simp(disch:=omega)only[go_sem]) (by simp(disch:=omega)only[go_sem]))
 show @W Tryz.prog 19 ⟨_⟩ ⟨fun x σ=>@q9 _ _ _ ⟨_⟩ _ ⟨_⟩ x σ⟩ _ _
 simp(disch:=omega)only[go_sem]
 refine qa (c) ?_
 simp(disch:=omega)only[go_sem]
 exact qj
theorem yB(n:Nat)(l:List ExV)(low:Int)(hn:n≤4)(hl:l.length=n*n)(hd:gbd (-10000) 10000 l)(h0:(jG n l).m=0):Con Tryz.prog 197 false [.ag [.v (.int .i64 (n)),.sl (l).length (ql ExV.cs (l))],.v (.int .i64 low)] [] (isA (.tu [.ag [.v (.int .i64 0),.sl 0 []],.v (.bool false)])):=by
 refine Con.frzA ?_
 have c1:=afG n l hn hl hd
 have cz:=yO (jG n l).s (jG n l).m (jG n l).e
 rw[decide_eq_true h0]at cz
 generalize jG n l=y at*
 refine Con.of_w (rs:=[.cell 4 110,.tmp 5]) Tryz.func197 rfl Tryz.ntmps197 rfl ?_
 simp(disch:=omega)only[go_sem]
 refine qa (c1) ?_
 simp(disch:=omega)only[go_sem]
 refine qn (cz) ?_
 simp(disch:=omega)only[go_sem]
 exact qj
theorem ae9{n:Nat}{l:List ExV}{low:Int}(hn:n≤4)(hl:l.length=n*n)(hd:gbd (-10000) 10000 l)(hlo: -300≤low∧low≤300):gbd (-300) 81000 (yh n l low):=
 aaQ fun i j hi hj=>(ExV.over_bd (hi:=80900) (qJ (agr hn hl hd) (by rw[agq];exact qS hi hj)) (show(-40000:Int)≤(jG n l).e by have:=(Q2 n hn hl hd).2.1;omega) (by omega) (by omega)).mono (by omega) (by omega)
def blR(n:Nat)(L:List ExV)(low:Int):ExV:=je n (jt n (qY n L (yh n L low)) (gId n)) n
end Go.Ab
namespace Go.Ab
open Go Go.Proofs
def aRo(n:Nat)(L:List ExV)(low:Int):Bool:=(decide (-120≤low)&&decide (low≤0))&&decide ((je n L n).cmp (exN 64)≤0)
theorem yA(n:Nat)(L:List ExV)(low:Int)(h:matV n L):Con Tryz.prog 69 true [.ag [.v (.int .i64 (n)),.sl (L).length (ql ExV.cs (L))],.v (.int .i64 low)] [] (isA (.v (.bool (aRo n L low)))):=by
 have cw:=zv low (-120) 0
 have cm:=Q6 n L h
 have cg:=zY n L (by have:=h.l16;omega)
 have cn:=QC n L h.n4 h.len (qw h.bd (by omega) (by omega))
 have bN:=Qr h.len h.bd (by omega) n (Nat.le_refl n)
 have h4:=h.n4
 have cc:=QE (je n L n) (exN 64) (bN.mono (by omega) (by omega)) ((aJr (by decide)).mono (by omega) (by omega))
 unfold aRo
 generalize je n L n=y at*
 cases hw:(decide (-120≤low)&&decide (low≤0))
 ·rw[hw]at cw
  refine Con.of_w (rs:=[.tmp 4]) Tryz.func69 rfl Tryz.ntmps69 rfl ?_
  simp(disch:=omega)only[go_sem]
  refine qn (cm) ?_
  simp(disch:=omega)only[go_sem]
  refine qn (cw) ?_
  simp(disch:=omega)only[go_sem]
  exact qy
 ·rw[hw]at cw
  rw[Bool.true_and]
  generalize y.cmp (exN 64)=C at*
  have e64:exN 64=⟨false,64,0⟩:=rfl
  rw[e64]at cc
  refine Con.of_w (rs:=[.tmp 4]) Tryz.func69 rfl Tryz.ntmps69 rfl ?_
  simp(disch:=omega)only[go_sem]
  refine qn (cm) ?_
  simp(disch:=omega)only[go_sem]
  refine qn (cw) ?_
  simp(disch:=omega)only[go_sem]
  refine qa (cg) ?_
  simp(disch:=omega)only[go_sem]
  refine qa (cn) ?_
  simp(disch:=omega)only[go_sem]
  refine qa (zp 64 (by omega)) ?_
  simp(disch:=omega)only[go_sem]
  refine qn (cc) ?_
  simp(disch:=omega)only[go_sem]
  exact qy
theorem JP(k:Int)(M:List DyV)(low:Int)(h1:M.length≤16)(h2:∀d∈M,d.xs.length≤200)(h:YM k M=false):Con Tryz.prog 69 true [.ag [.v (.int .i64 k),.sl M.length (ql DyV.cs M)],.v (.int .i64 low)] [] (isA (.v (.bool false))):=by
 have c:=amb k M h1 h2
 rw[h]at c
 refine Con.of_w (rs:=[.tmp 4]) Tryz.func69 rfl Tryz.ntmps69 rfl ?_
 simp(disch:=omega)only[go_sem]
 refine qn (c) ?_
 simp(disch:=omega)only[go_sem]
 exact qy
end Go.Ab
namespace Go.Ab
open Go Go.Proofs
/-! ### Square roots of matrices,step by step-/
def yS(n:Nat)(X A:List ExV):ExV:=je n (jt n (qY n X X) A) n
theorem als{n:Nat}{X Y:List ExV}{a b c d:Int}(hn:n≤4)(hX:X.length=n*n)(hY:Y.length=n*n)(bX:gbd a b X)(bY:gbd c d Y)(h0:a+c≤0∧0≤b+d):gbd (a+c) (b+d+4) (qY n X Y):=
 aaQ fun i j hi hj=>(Y3 hi hj (Nat.le_refl n) hX hY bX bY h0).mono (Int.le_refl _) (by omega)
theorem aeS{n:Nat}{X A:List ExV}(hn:n≤4)(hX:X.length=n*n)(hA:A.length=n*n)(bX:gbd (-10000) 10000 X)(bA:gbd (-10000) 10000 A):gbd (-20000) 20004 (qY n X X)∧gbd (-20000) 20005 (jt n (qY n X X) A)∧(yS n X A).bd (-20000) 20009:=by
 have bT:=qw (als hn hX hX bX bX (by omega)) (show(-20000:Int)≤_ by omega) (show _≤(20004:Int) by omega)
 have bM:=alt (n:=n) (L:=qY n X X) (L':=A) (lo:= -20000) (hi:=20004) zg hA bT (qw bA (by omega) (by omega))
 exact⟨bT,qw bM (by omega) (by omega),(Qr (n:=n) (l:=jt n (qY n X X) A) zg bM (by omega) n (Nat.le_refl n)).mono (by omega) (by omega)⟩
theorem Zf(n:Nat)(X A:List ExV)(hn:n≤4)(hX:X.length=n*n)(hA:A.length=n*n)(bX:gbd (-10000) 10000 X)(bA:gbd (-10000) 10000 A):Con Tryz.prog 105 false [.ag [.v (.int .i64 (n)),.sl (X).length (ql ExV.cs (X))],.ag [.v (.int .i64 (n)),.sl (A).length (ql ExV.cs (A))]] [] (isA (.ag [.v (.bool (yS n X A).s),.sl (lim (yS n X A).m).length (qc (lim (yS n X A).m)),.v (.int .i64 (yS n X A).e)])):=by
 refine Con.frzA ?_
 obtain⟨bT,bM,bR⟩:=aeS hn hX hA bX bA
 have c2:=al2 n X X hn hX hX (qw bX (by omega) (by omega)) (qw bX (by omega) (by omega))
 have c4:=al4 n (qY n X X) A hn zg hA (qw bT (by omega) (by omega)) (qw bA (by omega) (by omega))
 have c5:=QC n (jt n (qY n X X) A) hn zg (qw bM (by omega) (by omega))
 change Con _ _ _ _ _ (isA (.ag [.v (.bool (yS n X A).s),.sl (lim (yS n X A).m).length (qc (lim (yS n X A).m)),.v (.int .i64 (yS n X A).e)]))at c5
 generalize yS n X A=R at*
 generalize jt n (qY n X X) A=D at*
 generalize qY n X X=T at*
 refine Con.of_w (rs:=[.cell 4 117]) Tryz.func105 rfl Tryz.ntmps105 rfl ?_
 simp(disch:=omega)only[go_sem]
 refine qs rfl [⟨0,[],[]⟩,⟨1,[0],[]⟩,⟨3,[0,1],[]⟩,⟨2,[3],[]⟩,⟨4,[],[]⟩,⟨5,[],[]⟩,⟨6,[],[]⟩] (by kernel_rfl) ?_
 simp(disch:=omega)only[go_sem]
 refine qa (c2) ?_
 simp(disch:=omega)only[go_sem]
 refine qa (c4) ?_
 simp(disch:=omega)only[go_sem]
 refine qa (c5) ?_
 simp(disch:=omega)only[go_sem]
 exact qj
def agv:ExV:=⟨false,1, -1⟩
theorem Jj:agv.bd (-1) 0:=⟨(fun h=>by cases h),by show(-1:Int)≤ -1;omega,by show(bl 1:Int)+ -1≤0;have:bl 1≤1:=zB.2 (by decide);omega⟩
def rNx(n:Nat)(w:Int)(X Z:List ExV):List ExV:=amt n (zy n (jC n X (yh n Z w)) agv) w 0
def aN6(n:Nat)(X Z:List ExV):Bool:=decide ((jG n Z).m≠0)&&decide ((jG n X).m≠0)
def aRN(n:Nat)(w:Int)(X Z:List ExV):Bool:=(yh n Z w).all ExV.fit&&(yh n X w).all ExV.fit
theorem aa2(n:Nat)(X Z:List ExV)(w:Int)(hn:n≤4)(hX:X.length=n*n)(hZ:Z.length=n*n)(bX:gbd (-10000) 10000 X)(bZ:gbd (-10000) 10000 Z)(hw: -300≤w∧w≤300)(hi:aN6 n X Z=true):
  Con Tryz.prog 103 false [.ag [.v (.int .i64 (n)),.sl (X).length (ql ExV.cs (X))],.ag [.v (.int .i64 (n)),.sl (Z).length (ql ExV.cs (Z))],.v (.int .i64 w)] [] (isA (.tu [.ag [.v (.int .i64 (n)),.sl (rNx n w X Z).length (ql ExV.cs (rNx n w X Z))],.ag [.v (.int .i64 (n)),.sl (rNx n w Z X).length (ql ExV.cs (rNx n w Z X))],.v (.bool (aRN n w X Z))])):=by
 refine Con.frzA ?_
 unfold aN6 at hi
 simp only[Bool.and_eq_true,decide_eq_true_eq]at hi
 have hq:=jv hn
 have c1:=yc n Z w hn hZ bZ hi.1 hw
 have c2:=yc n X w hn hX bX hi.2 hw
 have b1:=ae9 (low:=w) hn hZ bZ hw
 have b2:=ae9 (low:=w) hn hX bX hw
 have l1:(yh n Z w).length=n*n:=zg
 have l2:(yh n X w).length=n*n:=zg
 have m1:=afu n (yh n Z w) (by omega) (qw b1 (by omega) (by omega))
 have m2:=afu n (yh n X w) (by omega) (qw b2 (by omega) (by omega))
 have p1:=abe n X (yh n Z w) hn hX l1 (qw bX (by omega) (by omega)) (qw b1 (by omega) (by omega))
 have p2:=abe n Z (yh n X w) hn hZ l2 (qw bZ (by omega) (by omega)) (qw b2 (by omega) (by omega))
 have q1:gbd (-10000) 81001 (jC n X (yh n Z w)):=qw (Jf hX l1 (qw bX (show(-10000:Int)≤_ by omega) (show _≤(81000:Int) by omega)) (qw b1 (by omega) (by omega))) (by omega) (by omega)
 have q2:gbd (-10000) 81001 (jC n Z (yh n X w)):=qw (Jf hZ l2 (qw bZ (show(-10000:Int)≤_ by omega) (show _≤(81000:Int) by omega)) (qw b2 (by omega) (by omega))) (by omega) (by omega)
 have s1:=Qf n (jC n X (yh n Z w)) agv hn zg (qw q1 (by omega) (by omega)) (Jj.mono (by omega) (by omega))
 have s2:=Qf n (jC n Z (yh n X w)) agv hn zg (qw q2 (by omega) (by omega)) (Jj.mono (by omega) (by omega))
 have t1:=Qd (n:=n) (l:=jC n X (yh n Z w)) (y:=agv) zg q1 Jj
 have t2:=Qd (n:=n) (l:=jC n Z (yh n X w)) (y:=agv) zg q2 Jj
 have r1:=QD n (zy n (jC n X (yh n Z w)) agv) w 0 hn zg (qw t1 (by omega) (by omega)) (by omega)
 have r2:=QD n (zy n (jC n Z (yh n X w)) agv) w 0 hn zg (qw t2 (by omega) (by omega)) (by omega)
 change Con _ _ _ _ _ (isA (.ag [.v (.int .i64 (n)),.sl (rNx n w X Z).length (ql ExV.cs (rNx n w X Z))]))at r1
 change Con _ _ _ _ _ (isA (.ag [.v (.int .i64 (n)),.sl (rNx n w Z X).length (ql ExV.cs (rNx n w Z X))]))at r2
 unfold aRN
 generalize rNx n w X Z=X' at*
 generalize rNx n w Z X=Z' at*
 generalize zy n (jC n X (yh n Z w)) agv=S1 at*
 generalize zy n (jC n Z (yh n X w)) agv=S2 at*
 generalize jC n X (yh n Z w)=P1 at*
 generalize jC n Z (yh n X w)=P2 at*
 generalize yh n Z w=I1 at*
 generalize yh n X w=I2 at*
 cases f1:I1.all ExV.fit<;>cases f2:I2.all ExV.fit<;>(rw[f1]at m1;rw[f2]at m2;first|rw[if_pos rfl]at m1|rw[if_neg (by simp)]at m1;first|rw[if_pos rfl]at m2|rw[if_neg (by simp)]at m2)
 all_goals
  refine Con.of_w (rs:=[.cell 6 110,.cell 7 110,.tmp 8]) Tryz.func103 rfl Tryz.ntmps103 rfl ?_
  simp(disch:=omega)only[go_sem]
  refine qa (c1) ?_
  simp(disch:=omega)only[go_sem]
  refine qa (c2) ?_
  simp(disch:=omega)only[go_sem]
  refine qa (m1) ?_
  simp(disch:=omega)only[go_sem]
  refine qa (m2) ?_
  simp(disch:=omega)only[go_sem]
  refine qa (zp 1 (by omega)) ?_
  simp(disch:=omega)only[go_sem]
  refine qs rfl [⟨0,[],[]⟩,⟨1,[0],[]⟩,⟨3,[0,1],[]⟩,⟨5,[0,1,3],[]⟩,⟨7,[0,1,3],[]⟩,⟨8,[0,1,3,7],[]⟩,⟨10,[0,1,3,7,8],[]⟩,⟨12,[0,1,3,7,8,10],[]⟩,⟨14,[0,1,3,7,8,10],[]⟩,⟨2,[3,7,8,10],[]⟩,⟨4,[7,8,10],[]⟩,⟨6,[7,8,10],[]⟩,⟨9,[10],[]⟩,⟨11,[],[]⟩,⟨13,[],[]⟩,⟨15,[],[]⟩,⟨16,[],[]⟩,⟨17,[],[]⟩,⟨18,[],[]⟩,⟨19,[],[]⟩,⟨20,[],[]⟩] (by kernel_rfl) ?_
  simp(disch:=omega)only[go_sem]
  refine qa (p1) ?_
  simp(disch:=omega)only[go_sem]
  refine qa (s1) ?_ (by simp(disch:=omega)only[go_sem,agv])
  simp(disch:=omega)only[go_sem]
  refine qa (r1) ?_
  simp(disch:=omega)only[go_sem]
  refine qa (p2) ?_
  simp(disch:=omega)only[go_sem]
  refine qa (s2) ?_ (by simp(disch:=omega)only[go_sem,agv])
  simp(disch:=omega)only[go_sem]
  refine qa (r2) ?_
  simp(disch:=omega)only[go_sem]
  exact qj
theorem Y7(n:Nat)(X Z:List ExV)(w:Int)(hn:n≤4)(hX:X.length=n*n)(hZ:Z.length=n*n)(bX:gbd (-10000) 10000 X)(bZ:gbd (-10000) 10000 Z)(hw: -300≤w∧w≤300)(hi:aN6 n X Z=false):
  Con Tryz.prog 103 false [.ag [.v (.int .i64 (n)),.sl (X).length (ql ExV.cs (X))],.ag [.v (.int .i64 (n)),.sl (Z).length (ql ExV.cs (Z))],.v (.int .i64 w)] [] (isA (.tu [.ag [.v (.int .i64 0),.sl 0 []],.ag [.v (.int .i64 0),.sl 0 []],.v (.bool false)])):=by
 refine Con.frzA ?_
 by_cases h1:(jG n Z).m=0
 ·have c1:=yB n Z w hn hZ bZ h1
  by_cases h2:(jG n X).m=0
  ·have c2:=yB n X w hn hX bX h2
   refine Con.of_w (rs:=[.cell 6 110,.cell 7 110,.tmp 8]) Tryz.func103 rfl Tryz.ntmps103 rfl ?_
   simp(disch:=omega)only[go_sem]
   refine qa (c1) ?_
   simp(disch:=omega)only[go_sem]
   refine qa (c2) ?_
   simp(disch:=omega)only[go_sem]
   exact qj
  ·have c2:=yc n X w hn hX bX h2 hw
   generalize yh n X w=I2 at*
   refine Con.of_w (rs:=[.cell 6 110,.cell 7 110,.tmp 8]) Tryz.func103 rfl Tryz.ntmps103 rfl ?_
   simp(disch:=omega)only[go_sem]
   refine qa (c1) ?_
   simp(disch:=omega)only[go_sem]
   refine qa (c2) ?_
   simp(disch:=omega)only[go_sem]
   exact qj
 ·have h2:(jG n X).m=0:=by
   by_cases h2:(jG n X).m=0
   ·exact h2
   ·exfalso
    unfold aN6 at hi
    rw[decide_eq_true h1,decide_eq_true h2]at hi
    cases hi
  have c1:=yc n Z w hn hZ bZ h1 hw
  have c2:=yB n X w hn hX bX h2
  generalize yh n Z w=I1 at*
  refine Con.of_w (rs:=[.cell 6 110,.cell 7 110,.tmp 8]) Tryz.func103 rfl Tryz.ntmps103 rfl ?_
  simp(disch:=omega)only[go_sem]
  refine qa (c1) ?_
  simp(disch:=omega)only[go_sem]
  refine qa (c2) ?_
  simp(disch:=omega)only[go_sem]
  exact qj
theorem Qw{n:Nat}{l:List ExV}{low mode:Int}:(amt n l low mode).length=n*n:=zg
def rSt(n:Nat)(w:Int)(L:List ExV):Nat→List ExV×List ExV
 |0=>(amt n L w 0,gId n)
 |k+1=>(rNx n w (rSt n w L k).1 (rSt n w L k).2,rNx n w (rSt n w L k).2 (rSt n w L k).1)
def ak6(n:Nat)(w:Int)(L:List ExV)(k:Nat):Bool:=aN6 n (rSt n w L k).1 (rSt n w L k).2&&aRN n w (rSt n w L k).1 (rSt n w L k).2
def aFz(n:Nat)(w:Int)(L:List ExV)(k:Nat):Bool:=(List.range k).all (ak6 n w L)
theorem aeU{n:Nat}{w:Int}{L:List ExV}:∀k,(rSt n w L k).1.length=n*n∧(rSt n w L k).2.length=n*n
 |0=>⟨Qw,aPD⟩
 |k+1=>⟨Qw,Qw⟩
theorem aYF{x:ExV}{w hi:Int}(h:x.fit=true)(hx:x.bd w hi)(h1:w≤4600)(hz:x.m=0→x.e≤4600):x.bd w 4600:=by
 obtain⟨a,b,c⟩:=hx
 refine⟨a,b,?_⟩
 by_cases h0:x.m=0
 ·rw[h0,yE];have:=hz h0;omega
 ·have o:=yq (abv h)
  have h2:x.can.m*2^tz x.m=x.m:=agd
  have h3:x.can.e=x.e+tz x.m:=by show oE x.m x.e=_;unfold oE;rw[if_neg h0]
  have h4:=JV x.can.m (tz x.m)
  rw[h2]at h4
  have:=o.1
  have:=o.2.1
  omega
theorem agp{n:Nat}{l:List ExV}{w:Int}(hn:n≤4)(hl:l.length=n*n)(hd:gbd (-10000) 10000 l)(hw: -300≤w∧w≤300)(h:(yh n l w).all ExV.fit=true):gbd (-300) 4600 (yh n l w):=fun x hx=>by
 have b:=ae9 (low:=w) hn hl hd hw x hx
 have hf:=List.all_eq_true.1 h x hx
 have he:x.e=w:=by
  obtain⟨t,_,rfl⟩:=List.mem_map.1 hx
  rfl
 exact aYF hf b (by omega) (fun _=>by omega)
theorem aJb{n:Nat}{w:Int}{X Z:List ExV}{lo hi:Int}(hn:n≤4)(hX:X.length=n*n)(bX:gbd lo hi X)(bI:gbd (-300) 4600 (yh n Z w))(h1:lo≤ -300)(h2:4600≤hi)(hw: -300≤w∧w≤300):gbd (lo-1) (hi+2) (rNx n w X Z):=by
 have q1:=Jf (n:=n) (L':=yh n Z w) hX zg bX (qw bI h1 h2)
 have t1:=Qd (n:=n) (l:=jC n X (yh n Z w)) (y:=agv) zg q1 Jj
 have:=Je (low:=w) (mode:=0) (n:=n) (l:=zy n (jC n X (yh n Z w)) agv) zg t1 (by omega) (by omega)
 exact qw this (by omega) (by omega)
theorem arK{n:Nat}{w:Int}{L:List ExV}(hn:n≤4)(hL:L.length=n*n)(bL:gbd (-3000) 4600 L)(hw: -300≤w∧w≤300):∀k:Nat,k≤12→aFz n w L k=true→gbd (-3000-k) (4601+2*k) (rSt n w L k).1∧gbd (-3000-k) (4601+2*k) (rSt n w L k).2
 |0,_,_=>by
  have h1:=Je (low:=w) (mode:=0) hL bL (by omega) (by omega)
  refine⟨qw h1 (by omega) (by omega),qw aUo (by omega) (by omega)⟩
 |k+1,hk,h=>by
  unfold aFz at h
  rw[List.range_succ,List.all_append,Bool.and_eq_true]at h
  obtain⟨g1,g2⟩:=arK hn hL bL hw k (by omega) h.1
  have h2:=h.2
  rw[List.all_cons,List.all_nil,Bool.and_true]at h2
  unfold ak6 aRN at h2
  simp only[Bool.and_eq_true]at h2
  obtain⟨l1,l2⟩:=aeU (n:=n) (w:=w) (L:=L) k
  have f1:=agp hn l2 (qw g2 (by omega) (by omega)) hw h2.2.1
  have f2:=agp hn l1 (qw g1 (by omega) (by omega)) hw h2.2.2
  have r1:=aJb hn l1 g1 f1 (by omega) (by omega) hw
  have r2:=aJb hn l2 g2 f2 (by omega) (by omega) hw
  exact⟨qw r1 (by omega) (by omega),qw r2 (by omega) (by omega)⟩
def rtX(n:Nat)(L:List ExV)(low:Int)(steps:Nat):List ExV:=amt n (rSt n (low-10) L steps).1 low 0
def ak4(n:Nat)(L:List ExV)(low:Int)(steps:Nat):Bool:=aFz n (low-10) L steps&&((rtX n L low steps).all ExV.fit&&(yS n (rtX n L low steps) L).fit)
theorem arL{n:Nat}{w:Int}{L:List ExV}{k:Nat}:aFz n w L (k+1)=(aFz n w L k&&ak6 n w L k):=by
 unfold aFz
 rw[List.range_succ,List.all_append,List.all_cons,List.all_nil,Bool.and_true]
theorem ak7{n:Nat}{w:Int}{L:List ExV}{k m:Nat}(h:ak6 n w L k=false)(hk:k<m):aFz n w L m=false:=by
 unfold aFz
 rw[List.all_eq_false]
 exact⟨k,List.mem_range.2 hk,by rw[h];simp⟩
set_option maxRecDepth 100000 in
theorem abn(n:Nat)(L:List ExV)(low:Int)(steps:Nat)(h:matV n L)(ha:aRo n L low=true)(hs:steps≤12):Con Tryz.prog 30 false [.ag [.v (.int .i64 (n)),.sl (L).length (ql ExV.cs (L))],.v (.int .i64 low),.v (.int .i64 steps)] []
  (isA (if ak4 n L low steps=true then .tu [.ag [.v (.int .i64 (n)),.sl ((rtX n L low steps).map ExV.can).length (ql ExV.cs ((rtX n L low steps).map ExV.can))],.ag [.v (.bool ((yS n (rtX n L low steps) L).can).s),.sl (lim ((yS n (rtX n L low steps) L).can).m).length (qc (lim ((yS n (rtX n L low steps) L).can).m)),.v (.int .i64 ((yS n (rtX n L low steps) L).can).e)],.v (.bool true)]else .tu [.ag [.v (.int .i64 0),.sl 0 []],.ag [.v (.bool (false)),.sl (lim (0)).length (qc (lim (0))),.v (.int .i64 (0))],.v (.bool false)])):=by
 refine Con.frzA ?_
 have ca:=yA n L low h
 rw[ha]at ca
 unfold aRo at ha
 simp only[Bool.and_eq_true,decide_eq_true_eq]at ha
 obtain⟨⟨ha1,ha2⟩, -⟩:=ha
 have h4:=h.n4
 have hq:=jv h4
 have cs:=zv steps 0 12
 rw[show(decide (0≤(steps:Int))&&decide ((steps:Int)≤12))=true by rw[decide_eq_true (by omega),decide_eq_true (by omega)];rfl]at cs
 have cg:=zY n L (by have:=h.l16;omega)
 have cr:=QD n L (low-10) 0 h4 h.len h.bd4 (by omega)
 have ci:=atB n h4
 have hst0:amt n L (low-10) 0=(rSt n (low-10) L 0).1:=rfl
 have hst1:gId n=(rSt n (low-10) L 0).2:=rfl
 rw[hst0]at cr
 rw[hst1]at ci
 have hS:=arK (w:=low-10) h4 h.len h.bd (by omega)
 have hl:=fun k=>aeU (n:=n) (w:=low-10) (L:=L) k
 have hr1:∀k,(rSt n (low-10) L (k+1)).1=rNx n (low-10) (rSt n (low-10) L k).1 (rSt n (low-10) L k).2:=fun _=>rfl
 have hr2:∀k,(rSt n (low-10) L (k+1)).2=rNx n (low-10) (rSt n (low-10) L k).2 (rSt n (low-10) L k).1:=fun _=>rfl
 refine Con.of_w (rs:=[.cell 6 25,.cell 7 42,.tmp 8]) Tryz.func30 rfl Tryz.ntmps30 rfl ?_
 simp(disch:=omega)only[go_sem]
 refine qn (ca) ?_
 simp(disch:=omega)only[go_sem]
 refine qn (cs) ?_
 simp(disch:=omega)only[go_sem]
 refine qs rfl [⟨0,[],[]⟩,⟨2,[0],[]⟩,⟨4,[0],[]⟩,⟨5,[0],[]⟩,⟨7,[0,5],[]⟩,⟨8,[0,5],[120000000]⟩,⟨1,[5],[120000000,130000000]⟩,⟨3,[5],[120000000,130000000]⟩,⟨6,[],[120000000,130000000]⟩,⟨9,[],[]⟩,⟨10,[],[]⟩] (by kernel_rfl) ?_
 simp(disch:=omega)only[go_sem]
 refine qa (cg) ?_
 simp(disch:=omega)only[go_sem]
 refine qa (cr) ?_
 simp(disch:=omega)only[go_sem]
 refine qa (ci) ?_
 simp(disch:=omega)only[go_sem]
 refine qh (fun i:Nat=>[(1,.v (.int .i64 low)),(3,.pt 2 0),(6,.pt 3 0),(7,.pt 4 0),(9,.v (.int .i64 (low-10))),(10,.pt 0 0),(11,.pt 1 0),(35,.v (.int .i64 steps)),(36,.v (.int .i64 i))])
  (fun i=>[(0,.own 0 [.v (.int .i64 n),.sl (rSt n (low-10) L i).1.length (ql ExV.cs (rSt n (low-10) L i).1)]),(1,.own 0 [.v (.int .i64 n),.sl (rSt n (low-10) L i).2.length (ql ExV.cs (rSt n (low-10) L i).2)]),(2,.own 0 [.v (.int .i64 n),.sl L.length (ql ExV.cs L)]),(3,.own 0 [.v (.int .i64 0),.v (.slice none 0 0)]),(4,.own 0 [.v (.bool false),.v (.slice none 0 0),.v (.int .i64 0)])])
  (fun i=>i≤steps∧aFz n (low-10) L i=true) (fun i=>steps-i) 0 ⟨by omega,rfl⟩
  (Le.lst [(0,120000000),(1,130000000),(2,50000000),(3,80000000),(4,90000000)] _ _ rfl (by simp(disch:=omega)only[go_sem]) (by simp(disch:=omega)only[go_sem])) ?_
 rintro i ⟨hi,hAll⟩
 obtain⟨b1,b2⟩:=hS i (by omega) hAll
 obtain⟨l1,l2⟩:=hl i
 have hsucc:=arL (n:=n) (w:=low-10) (L:=L) (k:=i)
 rw[hAll,Bool.true_and]at hsucc
 have hG:ak6 n (low-10) L i=(aN6 n (rSt n (low-10) L i).1 (rSt n (low-10) L i).2&&aRN n (low-10) (rSt n (low-10) L i).1 (rSt n (low-10) L i).2):=rfl
 have hfal:=ak7 (n:=n) (w:=low-10) (L:=L) (k:=i) (m:=steps)
 simp(disch:=omega)only[go_sem]
 refine qe (fun c1=>?_) (fun c1=>?_)
 ·have g1:=hr1 i
  have g2:=hr2 i
  have hbad:ak6 n (low-10) L i=false→ak4 n L low steps=false:=fun hg=>by unfold ak4;rw[hfal hg (by omega),Bool.false_and]
  cases hv:aN6 n (rSt n (low-10) L i).1 (rSt n (low-10) L i).2
  ·have cS:=Y7 n (rSt n (low-10) L i).1 (rSt n (low-10) L i).2 (low-10) h4 l1 l2 (qw b1 (by omega) (by omega)) (qw b2 (by omega) (by omega)) (by omega) hv
   rw[hv,Bool.false_and]at hG
   rw[hbad hG,if_neg (by simp),qo]
   generalize (rSt n (low-10) L i).1=X at*
   generalize (rSt n (low-10) L i).2=Z at*
   simp(disch:=omega)only[go_sem,c1]
   refine qa (cS) ?_
   simp(disch:=omega)only[go_sem]
   exact qj
  ·have cS:=aa2 n (rSt n (low-10) L i).1 (rSt n (low-10) L i).2 (low-10) h4 l1 l2 (qw b1 (by omega) (by omega)) (qw b2 (by omega) (by omega)) (by omega) hv
   rw[hv,Bool.true_and]at hG
   rw[←g1,←g2]at cS
   generalize hX2:(rSt n (low-10) L (i+1)).1=X2 at*
   generalize hZ2:(rSt n (low-10) L (i+1)).2=Z2 at*
   generalize (rSt n (low-10) L i).1=X at*
   generalize (rSt n (low-10) L i).2=Z at*
   cases hf:aRN n (low-10) X Z
   ·rw[hf]at cS hG
    rw[hbad hG,if_neg (by simp),qo]
    simp(disch:=omega)only[go_sem,c1]
    refine qa (cS) ?_
    simp(disch:=omega)only[go_sem]
    exact qj
   ·rw[hf]at cS hG
    rw[hG]at hsucc
    simp(disch:=omega)only[go_sem,c1]
    refine qa (cS) ?_
    simp(disch:=omega)only[go_sem]
    refine qs rfl [⟨0,[],[]⟩,⟨1,[0],[]⟩,⟨2,[1],[]⟩,⟨3,[],[]⟩] (by kernel_rfl) ?_
    simp(disch:=omega)only[go_sem]
    exact qb (i+1) [] ⟨by omega,hsucc⟩ (by show steps-(i+1)<steps-i;omega) rfl (by simp(disch:=omega)only[go_sem];try omega) (by simp(disch:=omega)only[go_sem,hX2,hZ2])
 ·obtain rfl:i=steps:=by omega
  have cR:=QD n (rSt n (low-10) L i).1 low 0 h4 l1 (qw b1 (by omega) (by omega)) (by omega)
  change Con _ _ _ _ _ (isA (.ag [.v (.int .i64 (n)),.sl (rtX n L low i).length (ql ExV.cs (rtX n L low i))]))at cR
  have lX:(rtX n L low i).length=n*n:=Qw
  have bX:gbd (-10000) 10000 (rtX n L low i):=qw (Je (low:=low) (mode:=0) l1 b1 (by omega) (by omega)) (by omega) (by omega)
  have bL:gbd (-10000) 10000 L:=qw h.bd (by omega) (by omega)
  have cE:=Zf n (rtX n L low i) L h4 lX h.len bX bL
  have bE:=(aeS h4 lX h.len bX bL).2.2
  have cW:=yX n (rtX n L low i) (yS n (rtX n L low i) L) (by omega) (qw bX (by omega) (by omega)) (bE.mono (by omega) (by omega))
  unfold ak4
  rw[hAll,Bool.true_and]
  generalize yS n (rtX n L low i) L=R at*
  generalize rtX n L low i=X at*
  have lC:(X.map ExV.can).length=X.length:=List.length_map _
  rw[lC]
  generalize X.map ExV.can=XC at*
  generalize (rSt n (low-10) L i).1=X0 at*
  generalize (rSt n (low-10) L i).2=Z0 at*
  cases hc:(X.all ExV.fit&&R.fit)
  ·rw[hc,if_neg (by simp)]at cW
   rw[if_neg (by simp)]
   simp(disch:=omega)only[go_sem,c1]
   refine qa (cR) ?_
   simp(disch:=omega)only[go_sem]
   refine qs rfl [⟨0,[],[]⟩,⟨1,[0],[]⟩,⟨2,[0,1],[]⟩,⟨3,[0,1],[]⟩,⟨4,[0],[]⟩,⟨5,[],[]⟩,⟨6,[],[]⟩,⟨7,[],[]⟩,⟨8,[],[]⟩,⟨9,[],[]⟩,⟨10,[],[]⟩,⟨11,[],[]⟩] (by kernel_rfl) ?_
   simp(disch:=omega)only[go_sem]
   refine qa (cg) ?_
   simp(disch:=omega)only[go_sem]
   refine qa (cE) ?_
   simp(disch:=omega)only[go_sem]
   refine qa (cW) ?_
   simp(disch:=omega)only[go_sem]
   exact qj
  ·rw[hc,if_pos rfl]at cW
   rw[if_pos rfl]
   simp(disch:=omega)only[go_sem,c1]
   refine qa (cR) ?_
   simp(disch:=omega)only[go_sem]
   refine qs rfl [⟨0,[],[]⟩,⟨1,[0],[]⟩,⟨2,[0,1],[]⟩,⟨3,[0,1],[]⟩,⟨4,[0],[]⟩,⟨5,[],[]⟩,⟨6,[],[]⟩,⟨7,[],[]⟩,⟨8,[],[]⟩,⟨9,[],[]⟩,⟨10,[],[]⟩,⟨11,[],[]⟩] (by kernel_rfl) ?_
   simp(disch:=omega)only[go_sem]
   refine qa (cg) ?_
   simp(disch:=omega)only[go_sem]
   refine qa (cE) ?_
   simp(disch:=omega)only[go_sem]
   refine qa (cW) ?_
   simp(disch:=omega)only[go_sem]
   exact qj
theorem yd(r:AV)(low:Int)(steps:Int)(ca:Con Tryz.prog 69 true [r,.v (.int .i64 low)] [] (isA (.v (.bool false))))(hr:∃(k:Int) (m:Nat) (cs:List AV),r=.ag [.v (.int .i64 k),.sl m cs]):Con Tryz.prog 30 false [r,.v (.int .i64 low),.v (.int .i64 steps)] []
  (isA (.tu [.ag [.v (.int .i64 0),.sl 0 []],.ag [.v (.bool (false)),.sl (lim (0)).length (qc (lim (0))),.v (.int .i64 (0))],.v (.bool false)])):=by
 refine Con.frzA ?_
 obtain⟨k,m,cs,rfl⟩:=hr
 rw[qo]
 refine Con.of_w (rs:=[.cell 6 25,.cell 7 42,.tmp 8]) Tryz.func30 rfl Tryz.ntmps30 rfl ?_
 simp(disch:=omega)only[go_sem]
 refine qn (ca) ?_
 simp(disch:=omega)only[go_sem]
 exact qj
theorem JR(n:Nat)(L:List ExV)(low:Int)(steps:Int)(h:matV n L)(hs:(decide (0≤steps)&&decide (steps≤12))=false):Con Tryz.prog 30 false [.ag [.v (.int .i64 (n)),.sl (L).length (ql ExV.cs (L))],.v (.int .i64 low),.v (.int .i64 steps)] []
  (isA (.tu [.ag [.v (.int .i64 0),.sl 0 []],.ag [.v (.bool (false)),.sl (lim (0)).length (qc (lim (0))),.v (.int .i64 (0))],.v (.bool false)])):=by
 have ca:=yA n L low h
 cases hb:aRo n L low
 ·rw[hb]at ca
  exact yd _ low steps ca ⟨_,_,_,rfl⟩
 ·refine Con.frzA ?_
  rw[hb]at ca
  have cs:=zv steps 0 12
  rw[hs]at cs
  rw[qo]
  refine Con.of_w (rs:=[.cell 6 25,.cell 7 42,.tmp 8]) Tryz.func30 rfl Tryz.ntmps30 rfl ?_
  simp(disch:=omega)only[go_sem]
  refine qn (ca) ?_
  simp(disch:=omega)only[go_sem]
  refine qn (cs) ?_
  simp(disch:=omega)only[go_sem]
  exact qj
end Go.Ab
namespace Go.Ab
open Go Go.Proofs
/-! ### The specification's matrices:everything in its one form-/
theorem aJx{K:Nat}{x y:ExV}(hx: -(K:Int)≤x.e)(hy: -(K:Int)≤y.e)(h:x.val K=y.val K):x.can=y.can:=by
 obtain⟨g1,g2,g3⟩:=aQF hx hy h
 show(⟨oS x.s x.m,oM x.m,oE x.m x.e⟩:ExV)=⟨oS y.s y.m,oM y.m,oE y.m y.e⟩
 rw[g1,g2,g3]
theorem abw{K:Nat}{x:ExV}(h: -(K:Int)≤x.e): -(K:Int)≤x.can.e:=bh3 h (by omega)
theorem aFD{K:Nat}{x y:ExV}(hx: -(K:Int)≤x.e)(hy: -(K:Int)≤y.e):(x.can.plus y.can).can=(x.plus y).can:=
 aJx (aaw (abw hx) (abw hy)) (aaw hx hy) (by rw[Qo (abw hx) (abw hy),Qo hx hy,afO hx,afO hy])
theorem atS{lo hi:Int}{x:ExV}(h:x.bd lo hi)(h1:lo≤0)(h2:0≤hi):x.can.bd lo hi:=by
 obtain⟨a,b,c⟩:=h
 by_cases h0:x.m=0
 ·have e:x.can=ex0:=by
   show(⟨oS x.s x.m,oM x.m,oE x.m x.e⟩:ExV)=_
   rw[h0,y6];rfl
  rw[e];exact aaW h1 h2
 ·have t:=jS h0
  have e3:x.can.e=x.e+tz x.m:=by show oE x.m x.e=_;unfold oE;rw[if_neg h0]
  have e4:x.can.m*2^tz x.m=x.m:=agd
  have hz:x.can.m≠0:=fun e=>by rw[e,Nat.zero_mul]at e4;exact h0 e4.symm
  have e5:bl x.m=bl x.can.m+tz x.m:=by
   have:=Q7 (n:=x.can.m) hz (tz x.m)
   rw[e4]at this;exact this
  exact⟨fun h=>absurd h hz,by omega,by omega⟩
theorem aUk{n:Nat}{g:Nat→Nat→ExV}{F:ExV→ExV}{k:Nat}:(gl n g k).map F=gl n (fun i j=>F (g i j)) k:=by
 unfold gl;rw[List.map_map];rfl
theorem alT(x y:ExV)(hx:x.bd (-400000) 400000)(hy:y.bd (-400000) 400000):Con Tryz.prog 267 false [.ag [.v (.bool (x).s),.sl (lim (x).m).length (qc (lim (x).m)),.v (.int .i64 (x).e)],.ag [.v (.bool (y).s),.sl (lim (y).m).length (qc (lim (y).m)),.v (.int .i64 (y).e)]] [] (isA (.ag [.v (.bool ((x.times y).can).s),.sl (lim ((x.times y).can).m).length (qc (lim ((x.times y).can).m)),.v (.int .i64 ((x.times y).can).e)])):=by
 obtain⟨z1,a1,a2⟩:=hx
 obtain⟨z2,b1,b2⟩:=hy
 exact atl x.s x.m x.e y.s y.m y.e (by omega) (by omega) (by omega) (by omega)
theorem afJ(k:Int)(M:List DyV)(h1:M.length≤16)(h2:∀d∈M,d.xs.length≤2^39):Con Tryz.prog 25 true [.ag [.v (.int .i64 k),.sl M.length (ql DyV.cs M)]] [] (isA (.v (.bool (YM k M)))):=by
 unfold YM
 refine Con.of_w (rs:=[.tmp 2]) Tryz.func25 rfl Tryz.ntmps25 rfl ?_
 simp(disch:=omega)only[go_sem]
 by_cases c1:k<1
 ·rw[decide_eq_false (show ¬1≤k by omega),Bool.false_and,Bool.false_and]
  simp(disch:=omega)only[go_sem,c1]
  exact qy
 by_cases c2:4<k
 ·rw[decide_eq_false (show ¬k≤4 by omega),Bool.and_false,Bool.false_and]
  simp(disch:=omega)only[go_sem,c1,c2]
  exact qy
 rw[decide_eq_true (show 1≤k by omega),decide_eq_true (show k≤4 by omega),Bool.true_and,Bool.true_and]
 have hq:0≤k*k∧k*k≤16:=⟨Int.mul_nonneg (by omega) (by omega),Int.mul_le_mul (show k≤4 by omega) (show k≤4 by omega) (by omega) (by omega)⟩
 by_cases c3:(M.length:Int)=k*k
 rotate_left
 ·rw[decide_eq_false c3,Bool.false_and]
  simp(disch:=omega)only[go_sem,c1,c2,decide_eq_false c3]
  exact qy
 rw[decide_eq_true c3,Bool.true_and]
 simp(disch:=omega)only[go_sem,c1,c2,decide_eq_true c3]
 refine qh (fun i:Nat=>[(1,.pt 1 0),(2,.v (.bool false)),(3,.v (.int .i64 i))]) (fun _=>[(1,.own 0 [.v (.int .i64 k),.sl M.length (ql DyV.cs M)])]) (fun i=>i≤M.length∧∀j,j<i→(M.getD j dy0).ok=true) (fun i=>M.length-i) 0 ⟨by omega,fun j hj=>by omega⟩
  (Le.lst [(1,30000000)] _ _ rfl (by simp(disch:=omega)only[go_sem]) (by simp(disch:=omega)only[go_sem])) ?_
 rintro i ⟨hi,hp⟩
 simp(disch:=omega)only[go_sem]
 refine qe (fun h3=>?_) (fun h3=>?_)
 ·have hcut:=QU (l:=M) Yc (i:=i) (by omega) dy0
  have hmem:M.getD i dy0∈M:=by
   rw[List.getD_eq_getElem?_getD,List.getElem?_eq_getElem (by omega)];exact List.getElem_mem _
  have hx:=h2 _ hmem
  have cd:=yC (M.getD i dy0).s (M.getD i dy0).xs (M.getD i dy0).e (by omega)
  rw[show dyB (M.getD i dy0).s (M.getD i dy0).xs (M.getD i dy0).e=(M.getD i dy0).ok from rfl]at cd
  have hall:(M.getD i dy0).ok=false→M.all DyV.ok=false:=fun h=>List.all_eq_false.2 ⟨_,hmem,by rw[h];simp⟩
  have hnext:(M.getD i dy0).ok=true→∀j,j<i+1→(M.getD j dy0).ok=true:=fun h j hj=>by
   rcases(by omega:j<i∨j=i)with h'|rfl
   ·exact hp j h'
   ·exact h
  generalize M.getD i dy0=d at*
  simp(disch:=omega)only[go_sem,h3,hcut,DyV.cs]
  refine⟨by omega,by omega,qn cd ?_⟩
  simp(disch:=omega)only[go_sem]
  cases hd:d.ok
  ·rw[hall hd]
   simp(disch:=omega)only[go_sem,hd]
   exact qy
  ·simp(disch:=omega)only[go_sem,hd]
   exact qb (i+1) [] ⟨by omega,hnext hd⟩ (by show M.length-(i+1)<M.length-i;omega) rfl (by simp(disch:=omega)only[go_sem];try omega) (by simp(disch:=omega)only[go_sem])
 ·simp(disch:=omega)only[go_sem,h3]
  have hall:M.all DyV.ok=true:=List.all_eq_true.2 fun d hd=>by
   obtain⟨j,hj,rfl⟩:=List.getElem_of_mem hd
   have:=hp j (by omega)
   rw[List.getD_eq_getElem?_getD,List.getElem?_eq_getElem hj]at this
   exact this
  rw[hall]
  exact qy
def gcT(n:Nat)(l l':List ExV)(k:Nat):List ExV:=gl n (fun i j=>(QM n l l' i j n).can) k
set_option maxRecDepth 100000 in
theorem atj(n:Nat)(l l':List ExV)(hn:n≤4)(hl:l.length=n*n)(hl':l'.length=n*n)(hb:gbd (-190000) 190000 l)(hb':gbd (-190000) 190000 l'):Con Tryz.prog 194 false [.ag [.v (.int .i64 (n)),.sl (l).length (ql ExV.cs (l))],.ag [.v (.int .i64 (n)),.sl (l').length (ql ExV.cs (l'))]] [] (isA (.ag [.v (.int .i64 (n)),.sl ((qY n l l').map ExV.can).length (ql ExV.cs ((qY n l l').map ExV.can))])):=by
 refine Con.frzA ?_
 have hq:=jv hn
 have hres:(qY n l l').map ExV.can=gcT n l l' (n*n):=aUk
 rw[hres]
 refine Con.of_aw Tryz.func194 rfl Tryz.ntmps194 (by simp) (by simp) (by simp) (W.sound ?_)
 show @W Tryz.prog 61 ⟨_⟩ ⟨fun x σ=>@q9 _ _ _ ⟨_⟩ _ ⟨_⟩ x σ⟩ _ _
 simp(disch:=omega)only[go_sem]
 refine zb (Js n hn) (by simp(disch:=omega)only[go_sem]) ?_
 rintro r hs ⟨rfl,rfl⟩
 refine⟨by simp[qT];simp(disch:=omega)only[go_sem],?_⟩
 simp(disch:=omega)only[go_sem]
 refine qh (fun i:Nat=>[(2,.pt 2 0),(3,.pt 3 0),(4,.pt 4 0),(5,.v (.int .i64 n)),(6,.pt 5 0),(7,.v (.int .i64 i))])
  (fun i=>[(1,.own 3 (ql ExV.cs (gcT n l l' (i*n))++zO (n*n-i*n) z3)),(2,.own 0 [.v (.int .i64 n),.sl l.length (ql ExV.cs l)]),(3,.own 0 [.v (.int .i64 n),.sl l'.length (ql ExV.cs l')]),(4,.own 0 [.v (.int .i64 0),.v (.slice none 0 0)]),(5,.own 0 [.v (.int .i64 n),.rf 1 0 (n*n)])]) (fun i=>i≤n) (fun i=>n-i) 0 (by omega)
  (Le.lst [(1,160000000),(2,40000000),(3,50000000),(4,60000000),(5,80000000)] _ _ rfl (by simp(disch:=omega)only[go_sem]) (by simp(disch:=omega)only[go_sem,Nat.zero_mul,Nat.sub_zero,show gcT n l l' 0=[] from rfl,j9,List.nil_append])) ?_
 intro i hi
 simp(disch:=omega)only[go_sem]
 refine qe (fun h1=>?_) (fun h1=>?_)
 ·simp(disch:=omega)only[go_sem,h1]
  have hin:i*n≤16:=Nat.mul_le_mul (show i≤4 by omega) hn
  refine qh (fun j:Nat=>[(2,.pt 2 0),(3,.pt 3 0),(4,.pt 4 0),(5,.v (.int .i64 n)),(6,.pt 5 0),(7,.v (.int .i64 i)),(8,.v (.int .i64 j))])
   (fun j=>[(1,.own 3 (ql ExV.cs (gcT n l l' (i*n+j))++zO (n*n-(i*n+j)) z3)),(2,.own 0 [.v (.int .i64 n),.sl l.length (ql ExV.cs l)]),(3,.own 0 [.v (.int .i64 n),.sl l'.length (ql ExV.cs l')]),(4,.own 0 [.v (.int .i64 0),.v (.slice none 0 0)]),(5,.own 0 [.v (.int .i64 n),.rf 1 0 (n*n)])]) (fun j=>j≤n) (fun j=>n-j) 0 (by omega)
   (Le.lst [] _ _ rfl (by simp(disch:=omega)only[go_sem]) (by simp(disch:=omega)only[go_sem,Nat.add_zero])) ?_
  intro j hj
  simp(disch:=omega)only[go_sem]
  refine qe (fun h2=>?_) (fun h2=>?_)
  ·have hij:=qS (show i<n by omega) (show j<n by omega)
   obtain⟨k0,hk0⟩:∃k0,n*n-(i*n+j)=k0+1:=⟨n*n-(i*n+j)-1,by omega⟩
   have hk1:n*n-(i*n+(j+1))=k0:=by omega
   have hs:gcT n l l' (i*n+(j+1))=gcT n l l' (i*n+j)++[(QM n l l' i j n).can]:=by
    have:=@asx n (fun i j=>(QM n l l' i j n).can) (i*n+j)
    have m:=ar5 (n:=n) (i:=i) (j:=j) (by omega)
    rw[m.1,m.2]at this
    exact this
   have hAl:(gcT n l l' (i*n+j)).length=i*n+j:=zg
   have eidx:(i:Int)*(n:Int)+(j:Int)=((gcT n l l' (i*n+j)).length:Int):=by rw[hAl,Int.natCast_add,Int.natCast_mul]
   rw[hk0]
   generalize hA:gcT n l l' (i*n+j)=A at*
   simp(disch:=omega)only[go_sem,h2]
   refine qh (fun k:Nat=>[(2,.pt 2 0),(3,.pt 3 0),(4,.pt 4 0),(5,.v (.int .i64 n)),(6,.pt 5 0),(7,.v (.int .i64 i)),(8,.v (.int .i64 j)),(9,.pt 6 0),(10,.v (.int .i64 k))])
    (fun k=>[(1,.own 3 (ql ExV.cs A++zO (k0+1) z3)),(2,.own 0 [.v (.int .i64 n),.sl l.length (ql ExV.cs l)]),(3,.own 0 [.v (.int .i64 n),.sl l'.length (ql ExV.cs l')]),(4,.own 0 [.v (.int .i64 0),.v (.slice none 0 0)]),(5,.own 0 [.v (.int .i64 n),.rf 1 0 (n*n)]),
     (6,.own 0 [.v (.bool (QM n l l' i j k).can.s),.sl (lim (QM n l l' i j k).can.m).length (qc (lim (QM n l l' i j k).can.m)),.v (.int .i64 (QM n l l' i j k).can.e)])])
    (fun k=>k≤n) (fun k=>n-k) 0 (by omega)
    ((Le.nilC 110000000 1 (zo:=0) (cs:=[.v (.bool false),.v (.slice none 0 0),.v (.int .i64 0)]) (by simp(disch:=omega)only[go_sem]) rfl).trans (Le.lst [(6,110000000)] _ _ rfl (by simp(disch:=omega)only[go_sem]) (by simp(disch:=omega)only[go_sem,List.set_cons_succ,List.set_cons_zero,show(QM n l l' i j 0).can=ex0 from aTL Yb,ex0,qo]))) ?_
   intro k hk
   have hD:=Y3 (k:=k) (show i<n by omega) (show j<n by omega) hk hl hl' hb hb' (by omega)
   have hsd:=Jn n l l' i j k
   generalize hDD:QM n l l' i j k=D at*
   simp(disch:=omega)only[go_sem]
   refine qe (fun h3=>?_) (fun h3=>?_)
   ·have hx:=qS (show i<n by omega) (show k<n by omega)
    have hx':=qS (show k<n by omega) (show j<n by omega)
    have e1:(i:Int)*(n:Int)+(k:Int)=((i*n+k:Nat):Int):=by rw[Int.natCast_add,Int.natCast_mul]
    have e2:(k:Int)*(n:Int)+(j:Int)=((k*n+j:Nat):Int):=by rw[Int.natCast_add,Int.natCast_mul]
    have hkn:k*n≤16:=Nat.mul_le_mul (show k≤4 by omega) hn
    have hp1:(i:Int)*(n:Int)≤16∧0≤(i:Int)*(n:Int):=by rw[←Int.natCast_mul];omega
    have hp2:(k:Int)*(n:Int)≤16∧0≤(k:Int)*(n:Int):=by rw[←Int.natCast_mul];omega
    have g1:=zU (l:=l) (i:=i*n+k) (by omega)
    have g2:=zU (l:=l') (i:=k*n+j) (by omega)
    have b1:=qJ hb (show i*n+k<l.length by omega)
    have b2:=qJ hb' (show k*n+j<l'.length by omega)
    have l1:i*n+k<l.length:=by omega
    have l2:k*n+j<l'.length:=by omega
    generalize l.getD (i*n+k) ex0=x at*
    generalize l'.getD (k*n+j) ex0=y at*
    generalize i*n+k=p at*
    generalize k*n+j=q at*
    have bt:=ExV.times_bd b1 b2
    have c1:=alT x y (b1.mono (by omega) (by omega)) (b2.mono (by omega) (by omega))
    have c2:=alW D.can (x.times y).can (atS (hD.mono (show(-400000:Int)≤_ by omega) (show _≤(400000:Int) by omega)) (by omega) (by omega)) (atS (bt.mono (by omega) (by omega)) (by omega) (by omega))
    rw[aFD (K:=400000) (by have:=hD.2.1;omega) (by have:=bt.2.1;omega),←hsd]at c2
    simp(disch:=omega)only[go_sem,h3]
    refine qs rfl [⟨0,[],[]⟩,⟨1,[0],[]⟩,⟨2,[0],[]⟩,⟨3,[0,2],[]⟩,⟨4,[0,2],[]⟩,⟨5,[0,2],[]⟩,⟨6,[0,2],[]⟩,⟨7,[0,2],[]⟩,⟨8,[0],[]⟩,⟨9,[0],[]⟩,⟨10,[0,2,9],[]⟩,⟨11,[0,2,9],[]⟩,⟨12,[0,2,9,11],[]⟩,⟨13,[0,2,9,11],[]⟩,⟨14,[0,2,9,11],[]⟩,⟨15,[0,2,9,11],[]⟩,⟨16,[0,2,9,11],[]⟩,⟨17,[0,2,9],[]⟩,⟨18,[0,2,9],[]⟩,⟨19,[0],[]⟩,⟨20,[],[]⟩,⟨21,[],[]⟩] (by kernel_rfl) ?_
    simp(disch:=omega)only[go_sem,e1,e2,g1,g2]
    refine⟨by omega,by omega,by omega,by omega,?_⟩
    refine qa (c1) ?_
    simp(disch:=omega)only[go_sem]
    refine qa (c2) ?_
    simp(disch:=omega)only[go_sem]
    exact qb (k+1) [] (by show k+1≤_;omega) (by show n-(k+1)<n-k;omega) rfl (by simp(disch:=omega)only[go_sem];try omega) (by simp(disch:=omega)only[go_sem])
   ·obtain rfl:n=k:=by omega
    rw[hDD]at hs
    generalize D.can=E at*
    have hp1:(i:Int)*(n:Int)≤16∧0≤(i:Int)*(n:Int):=by rw[←Int.natCast_mul];omega
    have hA2:(A.length:Int)=(i:Int)*(n:Int)+(j:Int):=eidx.symm
    simp(disch:=omega)only[go_sem,h3,eidx]
    rw[ZA]
    refine⟨by omega,by rw[List.length_append,yw,Xo];omega,qb (j+1) [] (by show j+1≤_;omega) (by show n-(j+1)<n-j;omega) rfl (by simp(disch:=omega)only[go_sem];try omega) (by simp(disch:=omega)only[go_sem,hk1,hs])⟩
  ·simp(disch:=omega)only[go_sem,h2]
   obtain rfl:n=j:=by omega
   exact qb (i+1) [] (by show i+1≤_;omega) (by show n-(i+1)<n-i;omega) rfl (by simp(disch:=omega)only[go_sem,Nat.add_mul,Nat.one_mul];try omega) (by simp(disch:=omega)only[go_sem,Nat.add_mul,Nat.one_mul])
 ·simp(disch:=omega)only[go_sem,h1]
  obtain rfl:n=i:=by omega
  have hll:(gcT n l l' (n*n)).length=n*n:=zg
  rw[hll]
  refine qi [(0,1)] [.own 3 (ql ExV.cs (gcT n l l' (n*n)))] [] [.ag [.v (.int .i64 n),.rf 0 0 (n*n)]] rfl (by simp(disch:=omega)only[go_sem]) (by simp(disch:=omega)only[go_sem,Nat.sub_self,amx,List.append_nil]) (by simp) (by simp) ?_
  show qG _ 6 _=_
  simp(disch:=omega)only[go_sem,q6,zn hll]
end Go.Ab
namespace Go.Ab
open Go Go.Proofs
set_option maxRecDepth 100000 in
theorem ati(n:Int)(l:List ExV)(hl:l.length≤1000)(hok:∀x∈l,x.ok=true):Con Tryz.prog 129 false [.ag [.v (.int .i64 n),.sl l.length (ql ExV.cs l)]] [] (isA (.ag [.v (.int .i64 n),.sl l.length (ql ExV.cs l)])):=by
 refine Con.frzA ?_
 refine Con.of_aw Tryz.func129 rfl Tryz.ntmps129 (by simp) (by simp) (by simp) (W.sound ?_)
 show @W Tryz.prog 27 ⟨_⟩ ⟨fun x σ=>@q9 _ _ _ ⟨_⟩ _ ⟨_⟩ x σ⟩ _ _
 simp(disch:=omega)only[go_sem]
 refine qh (fun i:Nat=>[(1,.pt 2 0),(2,.pt 3 0),(3,.pt 0 0),(4,.v (.int .i64 i))])
  (fun i=>[(0,.own 0 [.v (.int .i64 n),.rf 1 0 i]),(1,.own 3 (ql ExV.cs (mpT l (id) i))),(2,.own 0 [.v (.int .i64 n),.sl l.length (ql ExV.cs l)]),(3,.own 0 [.v (.int .i64 0),.v (.slice none 0 0)])]) (fun i=>i≤l.length) (fun i=>l.length-i) 0 (by omega)
  ((Le.ghostC 50000000 1 1 3 (zo:=0) (cs:=[.v (.int .i64 n),.v (.slice none 0 0)]) (by simp(disch:=omega)only[go_sem]) rfl (by simp(disch:=omega)only[go_sem])).trans (Le.lst [(0,50000000),(2,30000000),(3,40000000)] _ _ rfl (by simp(disch:=omega)only[go_sem]) (by simp(disch:=omega)only[go_sem,jZ,j9,List.set_cons_succ,List.set_cons_zero]))) ?_
 intro i hi
 simp(disch:=omega)only[go_sem]
 refine qe (fun h1=>?_) (fun h1=>?_)
 ·have hi2:i<l.length:=by omega
  have hci:=zU hi2
  have hcut:=zn (zQ (F:=id) hi)
  have hml:=zQ (F:=id) hi
  have hs:=j0 (F:=id) ex0 hi2
  have hx:=hok (l.getD i ex0) (by rw[List.getD_eq_getElem?_getD,List.getElem?_eq_getElem hi2];exact List.getElem_mem _)
  generalize l.getD i ex0=x at*
  simp(disch:=omega)only[go_sem,h1]
  refine qs rfl [⟨0,[],[]⟩,⟨1,[],[]⟩,⟨2,[1],[]⟩,⟨3,[1],[]⟩,⟨4,[1,3],[]⟩,⟨5,[1],[]⟩,⟨6,[1],[]⟩,⟨7,[1],[]⟩,⟨8,[1],[]⟩,⟨9,[],[]⟩,⟨10,[],[]⟩,⟨11,[],[]⟩] (by kernel_rfl) ?_
  simp(disch:=omega)only[go_sem,hci]
  refine⟨by omega,by omega,?_⟩
  refine qa (atk x hx) ?_
  simp(disch:=omega)only[go_sem]
  simp(disch:=omega)only[go_sem,hcut,j8]
  refine⟨⟨by rw[hml];exact Nat.le_refl _,by omega⟩,qb (i+1) [(1,260000000)] (by show i+1≤_;omega) (by show l.length-(i+1)<l.length-i;omega) rfl (by simp(disch:=omega)only[go_sem];try omega) (by simp(disch:=omega)only[go_sem,hs,id_eq])⟩
 ·simp(disch:=omega)only[go_sem,h1]
  obtain rfl:i=l.length:=by omega
  refine qi [(0,1)] [.own 3 (ql ExV.cs (mpT l (id) l.length))] [] [.ag [.v (.int .i64 n),.rf 0 0 l.length]] rfl (by simp(disch:=omega)only[go_sem]) (by simp(disch:=omega)only[go_sem]) (by simp) (by simp) ?_
  show qG _ 6 _=_
  simp(disch:=omega)only[go_sem,q6,y7,zn (l:=l.map (id)) (k:=l.length) (List.length_map ..),List.map_id,zn (l:=l) (k:=l.length) rfl]
theorem aGc{n:Nat}{I:List ExV}(h1:1≤n)(h4:n≤4)(hl:I.length=n*n):YM n ((I.map ExV.can).map ExV.dyv)=I.all ExV.fit:=by
 have e:I.all ExV.fit=((I.map ExV.can).map ExV.dyv).all DyV.ok:=by
  rw[List.all_map,List.all_map]
  congr 1
  funext x
  exact(Xi x).symm
 unfold YM
 rw[←e,List.length_map,List.length_map,hl,decide_eq_true (show(1:Int)≤(n:Int) by omega),decide_eq_true (show(n:Int)≤4 by omega),decide_eq_true (show((n*n:Nat):Int)=(n:Int)*(n:Int) from Int.natCast_mul n n)]
 rfl
theorem alP(n:Nat)(I:List ExV)(h1:1≤n)(h4:n≤4)(hl:I.length=n*n)(hb:gbd (-400000) 400000 I):Con Tryz.prog 193 false [.ag [.v (.int .i64 (n)),.sl (I.map ExV.can).length (ql ExV.cs (I.map ExV.can))]] []
  (isA (if I.all ExV.fit=true then .tu [.ag [.v (.int .i64 (n)),.sl (I.map ExV.can).length (ql ExV.cs (I.map ExV.can))],.v (.bool true)]else .tu [.ag [.v (.int .i64 0),.sl 0 []],.v (.bool false)])):=by
 refine Con.frzA ?_
 have hq:=jv h4
 have hC:(I.map ExV.can).length=I.length:=List.length_map _
 have cM:=afJ n ((I.map ExV.can).map ExV.dyv) (by rw[List.length_map,List.length_map];omega) (fun d hd=>by
  obtain⟨x,hx,rfl⟩:=List.mem_map.1 hd
  have hx2:x.bd (-400000) 400000:=by
   obtain⟨y,hy,rfl⟩:=List.mem_map.1 hx
   exact atS (hb y hy) (by omega) (by omega)
  have:=qC (m:=x.m) (B:=800000) (by have:=hx2.2.1;have:=hx2.2.2;omega)
  show(lim x.m).length≤_
  omega)
 rw[aGc h1 h4 hl,jY,List.length_map,hC]at cM
 rw[hC]
 have cO:=ati n (I.map ExV.can) (by omega)
 have hok:I.all ExV.fit=true→∀x∈I.map ExV.can,x.ok=true:=fun hf x hx=>by
  obtain⟨y,hy,rfl⟩:=List.mem_map.1 hx
  exact abv (List.all_eq_true.1 hf y hy)
 rw[hC]at cO
 generalize I.map ExV.can=C at*
 cases hf:I.all ExV.fit
 ·rw[hf]at cM
  rw[if_neg (by simp)]
  refine Con.of_w (rs:=[.cell 2 25,.tmp 3]) Tryz.func193 rfl Tryz.ntmps193 rfl ?_
  simp(disch:=omega)only[go_sem]
  refine qn (cM) ?_
  simp(disch:=omega)only[go_sem]
  exact qj
 ·rw[hf]at cM
  rw[if_pos rfl]
  have cO:=cO (hok hf)
  refine Con.of_w (rs:=[.cell 2 25,.tmp 3]) Tryz.func193 rfl Tryz.ntmps193 rfl ?_
  simp(disch:=omega)only[go_sem]
  refine qn (cM) ?_
  simp(disch:=omega)only[go_sem]
  refine qa (cO) ?_
  simp(disch:=omega)only[go_sem]
  exact qj
theorem alR(n:Nat)(L L':List ExV)(h:matV n L)(h':matV n L'):Con Tryz.prog 192 true [.ag [.v (.int .i64 (n)),.sl (L).length (ql ExV.cs (L))],.ag [.v (.int .i64 (n)),.sl (L').length (ql ExV.cs (L'))]] [] (isA (.v (.bool true))):=by
 have c1:=JA n L h
 have c2:=JA n L' h'
 refine Con.of_w (rs:=[.tmp 4]) Tryz.func192 rfl Tryz.ntmps192 rfl ?_
 simp(disch:=omega)only[go_sem]
 refine qn (c1) ?_
 simp(disch:=omega)only[go_sem]
 refine qn (c2) ?_
 simp(disch:=omega)only[go_sem]
 exact qy
theorem abp(n:Nat)(L L':List ExV)(h:matV n L)(h':matV n L'):Con Tryz.prog 100 false [.ag [.v (.int .i64 (n)),.sl (L).length (ql ExV.cs (L))],.ag [.v (.int .i64 (n)),.sl (L').length (ql ExV.cs (L'))]] []
  (isA (if(qY n L L').all ExV.fit=true then .tu [.ag [.v (.int .i64 (n)),.sl ((qY n L L').map ExV.can).length (ql ExV.cs ((qY n L L').map ExV.can))],.v (.bool true)]else .tu [.ag [.v (.int .i64 0),.sl 0 []],.v (.bool false)])):=by
 refine Con.frzA ?_
 have cb:=alR n L L' h h'
 have cm:=atj n L L' h.n4 h.len h'.len h.bd3 h'.bd3
 have bT:gbd (-400000) 400000 (qY n L L'):=aaQ fun i j hi hj=>(Y3 hi hj (Nat.le_refl n) h.len h'.len h.bd h'.bd (by omega)).mono (by omega) (by have:=h.n4;omega)
 have cf:=alP n (qY n L L') h.n1 h.n4 zg bT
 generalize (qY n L L').map ExV.can=C at*
 cases hf:(qY n L L').all ExV.fit
 ·rw[hf,if_neg (by simp)]at cf
  rw[if_neg (by simp)]
  refine Con.of_w (rs:=[.cell 4 25,.tmp 5]) Tryz.func100 rfl Tryz.ntmps100 rfl ?_
  simp(disch:=omega)only[go_sem]
  refine qn (cb) ?_
  simp(disch:=omega)only[go_sem]
  refine qa (cm) ?_
  simp(disch:=omega)only[go_sem]
  refine qa (cf) ?_
  simp(disch:=omega)only[go_sem]
  exact qj
 ·rw[hf,if_pos rfl]at cf
  rw[if_pos rfl]
  refine Con.of_w (rs:=[.cell 4 25,.tmp 5]) Tryz.func100 rfl Tryz.ntmps100 rfl ?_
  simp(disch:=omega)only[go_sem]
  refine qn (cb) ?_
  simp(disch:=omega)only[go_sem]
  refine qa (cm) ?_
  simp(disch:=omega)only[go_sem]
  refine qa (cf) ?_
  simp(disch:=omega)only[go_sem]
  exact qj
end Go.Ab
namespace Go.Ab
open Go Go.Proofs
section
variable (l:List UInt8)(hl:l.length≤9223372036854775807)(i h:Int)(hi:0≤i∧i≤l.length)
include hl hi
theorem yN:Con Tryz.prog 68 false [.pt 10000000 0] [.own 0 [.sl l.length (qk l),.v (.int .i64 i),.v (.int .i64 h)]] (Yd l fun r=>∃k:Int,(-121≤k∧k≤1)∧r=.v (.int .i64 k)):=by
 refine Con.of_aw Tryz.func68 rfl Tryz.ntmps68 (by simp) (by simp) (by simp) (W.sound ?_)
 show @W Tryz.prog 11 ⟨_⟩ ⟨fun x σ=>@q9 _ _ _ ⟨_⟩ _ ⟨_⟩ x σ⟩ _ _
 simp(disch:=omega)only[go_sem]
 refine qu (qQ l hl i h hi 15 (by omega)) ?_
 rintro r i1 h1 hi1 ⟨b,rfl⟩
 simp(disch:=omega)only[go_sem]
 cases b
 ·simp(disch:=omega)only[go_sem]
  refine qu (qN l hl i1 h1 hi1 60 (by omega)) ?_
  rintro r i2 h2 hi2 ⟨k,hk,rfl⟩
  simp(disch:=omega)only[go_sem]
  have hk2:=hk.2 (by omega)
  refine qR (i2) (h2) ⟨0-k,by omega,rfl⟩
 ·simp(disch:=omega)only[go_sem]
  refine zA (qP l hl i1 h1 hi1 [1, -121, -120] (by simp) (by simp)) ?_
  rintro r i2 h2 hi2 ⟨y,hy,rfl⟩
  have hy_b: -121≤y∧y≤1:=by
   simp only[List.mem_cons,List.not_mem_nil,or_false]at hy
   omega
  clear hy
  simp(disch:=omega)only[go_sem]
  refine qR (i2) (h2) ⟨y,by omega,rfl⟩
theorem afz:Con Tryz.prog 67 false [.pt 10000000 0] [.own 0 [.sl l.length (qk l),.v (.int .i64 i),.v (.int .i64 h)]] (Yd l aT6):=by
 refine Con.cur l i h (Q:=fun r hs=>(∀ob∈hs,ob.men fun _=>False)∧aT6 (qG (rhp hs []) 6 r)) ?_ fun _ _ h=>h
 refine Con.of_aw Tryz.func67 rfl Tryz.ntmps67 (by simp) (by simp) (by simp) (W.sound ?_)
 show @W Tryz.prog 29 ⟨_⟩ ⟨fun x σ=>@q9 _ _ _ ⟨_⟩ _ ⟨_⟩ x σ⟩ _ _
 simp(disch:=omega)only[go_sem]
 refine qu (aQK l hl i h hi) ?_
 rintro r i1 h1 hi1 ⟨n,hn,rfl⟩
 simp(disch:=omega)only[go_sem]
 have hq:=jv hn.2
 refine zb (Js n hn.2) (by simp(disch:=omega)only[go_sem]) ?_
 rintro r hs ⟨rfl,rfl⟩
 refine⟨by simp[qT];simp(disch:=omega)only[go_sem],?_⟩
 simp(disch:=omega)only[go_sem]
 refine qh (fun x:List ExV×Int×Int=>[(0,.pt 10000000 0),(2,.pt 5 0),(3,.v (.int .i64 n)),(4,.pt 4 0),(5,.v (.int .i64 x.1.length))])
  (fun x=>[(3,.own 3 (ql ExV.cs x.1++zO (n*n-x.1.length) z3)),(4,.own 0 [.v (.int .i64 n),.rf 3 0 (n*n)]),(5,.own 0 [.v (.int .i64 0),.v (.slice none 0 0)]),(10000000,.own 0 [.sl l.length (qk l),.v (.int .i64 x.2.1),.v (.int .i64 x.2.2)])])
  (fun x=>x.1.length≤n*n∧(∀y∈x.1,y.ok=true)∧(0≤x.2.1∧x.2.1≤l.length)) (fun x=>n*n-x.1.length) ([],i1,h1) ⟨by simp,by simp,hi1⟩
  (Le.lst [(3,110000000),(4,60000000),(5,40000000)] _ _ rfl (by simp(disch:=omega)only[go_sem]) (by simp(disch:=omega)only[go_sem,j9,List.nil_append];try rfl)) ?_
 rintro⟨L,i2,h2⟩ ⟨hL,hok,hi2⟩
 dsimp only at hL hok hi2 ⊢
 simp(disch:=omega)only[go_sem]
 refine qe (fun c1=>?_) (fun c1=>?_)
 ·obtain⟨k,hk⟩:∃k,n*n-L.length=k+1:=⟨n*n-L.length-1,by omega⟩
  rw[hk]
  simp(disch:=omega)only[go_sem,c1]
  refine qs rfl [⟨0,[],[]⟩,⟨1,[],[]⟩,⟨2,[1],[]⟩,⟨3,[1],[]⟩,⟨4,[1],[]⟩,⟨5,[],[]⟩,⟨6,[],[]⟩] (by kernel_rfl) ?_
  simp(disch:=omega)only[go_sem]
  refine qu (Jr l hl i2 h2 hi2) ?_
  rintro r i3 h3 hi3 ⟨x,hx,rfl⟩
  simp(disch:=omega)only[go_sem]
  have hl3:(L++[x]).length=L.length+1:=by simp
  rw[ZA]
  refine⟨by omega,by rw[List.length_append,yw,Xo];omega,qb (L++[x],i3,h3) [] ⟨by dsimp only;omega,fun y hy=>?_,hi3⟩ (by show n*n-(L++[x]).length<k+1;omega) rfl (by simp(disch:=omega)only[go_sem,hl3];try omega) (by simp(disch:=omega)only[go_sem,hl3,show n*n-(L.length+1)=k by omega])⟩
  rcases List.mem_append.1 hy with hy|hy
  ·exact hok y hy
  ·rw[List.mem_singleton.1 hy];exact hx
 ·obtain hLn:L.length=n*n:=by omega
  have hm:∀(M:List DyV),∀ob∈[Ob.own 3 (ql DyV.cs M)],ob.men fun _=>False:=fun M ob ho=>by rw[List.mem_singleton.1 ho];exact of_eq_true afh
  have h16:(L.map ExV.dy).length=n*n:=by rw[List.length_map];exact hLn
  have h200:∀d∈L.map ExV.dy,d.xs.length≤200:=fun d hd=>by
   obtain⟨x,hx,rfl⟩:=List.mem_map.1 hd
   have:=(yq (hok x hx)).2.2.1
   show(lim x.m).length≤200
   omega
  simp(disch:=omega)only[go_sem,c1]
  refine qu (qQ l hl i2 h2 hi2 12 (by omega)) ?_
  rintro r i3 h3 hi3 ⟨b,rfl⟩
  simp(disch:=omega)only[go_sem]
  cases b
  ·simp(disch:=omega)only[go_sem]
   rw[hLn,Nat.sub_self,amx,List.append_nil,arC]
   refine qi [(0,3)] [.own 3 (ql DyV.cs (L.map ExV.dy))] [.own 0 [.sl l.length (qk l),.v (.int .i64 i3),.v (.int .i64 h3)]] [.ag [.v (.int .i64 n),.rf 0 (0*3) (n*n)]] rfl (by simp(disch:=omega)only[go_sem]) (by simp(disch:=omega)only[go_sem]) (by simp) (by simp) ⟨⟨hm _,ar9 (o:=0) (by omega) (by omega) h200⟩,_,_,hi3,rfl⟩
  ·simp(disch:=omega)only[go_sem]
   refine qu (alS l hl i3 h3 hi3 n hn) ?_
   rintro r i4 h4 hi4 ⟨k,M,hM1,hM2,rfl⟩
   simp(disch:=omega)only[go_sem]
   refine qi [] [] [.own 0 [.sl l.length (qk l),.v (.int .i64 i4),.v (.int .i64 h4)]] [.ag [.v (.int .i64 k),.sl M.length (ql DyV.cs M)]] rfl (by simp(disch:=omega)only[go_sem]) (by simp(disch:=omega)only[go_sem]) (by simp) (by simp) ⟨⟨by simp,k,M,hM1,hM2,?_⟩,_,_,hi4,rfl⟩
   show qG _ 6 _=_
   simp(disch:=omega)only[go_sem]
end
end Go.Ab
namespace Go.Ab
open Go Go.Proofs
theorem JC(l:List UInt8)(hl:l.length≤9223372036854775807):Con Tryz.prog 29 false [.sl l.length (qk l)] [] (fun r hs bs=>hs=[]∧bs=[]∧∃(n:Int) (L:List DyV) (k s:Int),(L.length≤16∧∀d∈L,d.xs.length≤200)∧(-121≤k∧k≤1)∧(-1≤s∧s≤13)∧r=.tu [.ag [.v (.int .i64 n),.sl L.length (ql DyV.cs L)],.v (.int .i64 k),.v (.int .i64 s)]):=by
 refine Con.of_aw Tryz.func29 rfl Tryz.ntmps29 (by simp) (by simp) (by simp) (W.sound ?_)
 show @W Tryz.prog 33 ⟨_⟩ ⟨fun x σ=>@q9 _ _ _ ⟨_⟩ _ ⟨_⟩ x σ⟩ _ _
 simp(disch:=omega)only[go_sem]
 refine zb (atw l hl) (by simp(disch:=omega)only[go_sem]) ?_
 rintro r hs ⟨rfl, -,⟨h,rfl⟩⟩
 refine⟨by simp(disch:=omega)only[go_sem],?_⟩
 simp(disch:=omega)only[go_sem]
 refine qu (afz l hl 0 h (by omega)) ?_
 rintro r i1 h1 hi1 ⟨n,L,hL1,hL2,rfl⟩
 simp(disch:=omega)only[go_sem]
 refine qu (qQ l hl i1 h1 hi1 2 (by omega)) ?_
 rintro r i2 h2 hi2 ⟨b,rfl⟩
 simp(disch:=omega)only[go_sem]
 cases b
 ·simp(disch:=omega)only[go_sem]
  refine qs rfl [⟨0,[],[]⟩,⟨1,[0],[]⟩,⟨3,[0],[]⟩,⟨4,[0],[]⟩,⟨2,[0],[330000000]⟩,⟨5,[0],[]⟩,⟨6,[],[]⟩,⟨7,[],[]⟩,⟨8,[],[]⟩] (by kernel_rfl) ?_
  simp(disch:=omega)only[go_sem]
  refine qu (yN l hl i2 h2 hi2) ?_
  rintro r i3 h3 hi3 ⟨k,hk,rfl⟩
  simp(disch:=omega)only[go_sem]
  refine zA (qP l hl i3 h3 hi3 [0,1,3,6,12,13, -1] (by simp) (by simp)) ?_
  rintro r i4 h4 hi4 ⟨y,hy,rfl⟩
  have hy_b: -1≤y∧y≤13:=by
   simp only[List.mem_cons,List.not_mem_nil,or_false]at hy
   omega
  clear hy
  simp(disch:=omega)only[go_sem]
  exact qO (by simp(disch:=omega)only[go_sem]) ⟨rfl,rfl,n,L,k,y,⟨hL1,hL2⟩,hk,hy_b,rfl⟩
 ·simp(disch:=omega)only[go_sem]
  have cM:=JB n L hL1 hL2
  cases hB:YM n L
  ·rw[hB]at cM
   refine qn (cM) ?_
   simp(disch:=omega)only[go_sem]
   refine qs rfl [⟨0,[],[]⟩,⟨1,[0],[]⟩,⟨3,[0],[]⟩,⟨4,[0],[]⟩,⟨2,[0],[330000000]⟩,⟨5,[0],[]⟩,⟨6,[],[]⟩,⟨7,[],[]⟩,⟨8,[],[]⟩] (by kernel_rfl) ?_
   simp(disch:=omega)only[go_sem]
   refine qu (yN l hl i2 h2 hi2) ?_
   rintro r i3 h3 hi3 ⟨k,hk,rfl⟩
   simp(disch:=omega)only[go_sem]
   refine zA (qP l hl i3 h3 hi3 [0,1,3,6,12,13, -1] (by simp) (by simp)) ?_
   rintro r i4 h4 hi4 ⟨y,hy,rfl⟩
   have hy_b: -1≤y∧y≤13:=by
    simp only[List.mem_cons,List.not_mem_nil,or_false]at hy
    omega
   clear hy
   simp(disch:=omega)only[go_sem]
   exact qO (by simp(disch:=omega)only[go_sem]) ⟨rfl,rfl,n,L,k,y,⟨hL1,hL2⟩,hk,hy_b,rfl⟩
  ·rw[hB]at cM
   obtain⟨m,D,rfl,rfl,hD⟩:=aJe hB
   have cX:=abp m D D hD hD
   rw[jY,List.length_map]at cM
   have h16:=hD.l16
   rw[jY,List.length_map]
   cases hf:(qY m D D).all ExV.fit
   ·rw[hf,if_neg (by simp)]at cX
    refine qn (cM) ?_
    simp(disch:=omega)only[go_sem]
    refine qa (cX) ?_
    simp(disch:=omega)only[go_sem]
    refine qs rfl [⟨0,[],[]⟩,⟨1,[0],[]⟩,⟨3,[0],[]⟩,⟨4,[0],[]⟩,⟨2,[0],[330000000]⟩,⟨5,[0],[]⟩,⟨6,[],[]⟩,⟨7,[],[]⟩,⟨8,[],[]⟩] (by kernel_rfl) ?_
    simp(disch:=omega)only[go_sem]
    refine qu (yN l hl i2 h2 hi2) ?_
    rintro r i3 h3 hi3 ⟨k,hk,rfl⟩
    simp(disch:=omega)only[go_sem]
    refine zA (qP l hl i3 h3 hi3 [0,1,3,6,12,13, -1] (by simp) (by simp)) ?_
    rintro r i4 h4 hi4 ⟨y,hy,rfl⟩
    have hy_b: -1≤y∧y≤13:=by
     simp only[List.mem_cons,List.not_mem_nil,or_false]at hy
     omega
    clear hy
    simp(disch:=omega)only[go_sem]
    exact qO (by simp(disch:=omega)only[go_sem]) ⟨rfl,rfl,m,D.map ExV.dyv,k,y,⟨hL1,hL2⟩,hk,hy_b,by rw[jY,List.length_map];rfl⟩
   ·rw[hf,if_pos rfl]at cX
    obtain⟨-, -,g3⟩:=aUn hD.n1 hD.n4 (l:=qY m D D) zg hf
    generalize (qY m D D).map ExV.can=C at*
    have hl3:=g3.lens
    refine qn (cM) ?_
    simp(disch:=omega)only[go_sem]
    refine qa (cX) ?_
    simp(disch:=omega)only[go_sem]
    refine qs rfl [⟨0,[],[]⟩,⟨1,[0],[]⟩,⟨3,[0],[]⟩,⟨4,[0],[]⟩,⟨2,[0],[330000000]⟩,⟨5,[0],[]⟩,⟨6,[],[]⟩,⟨7,[],[]⟩,⟨8,[],[]⟩] (by kernel_rfl) ?_
    simp(disch:=omega)only[go_sem]
    refine qu (yN l hl i2 h2 hi2) ?_
    rintro r i3 h3 hi3 ⟨k,hk,rfl⟩
    simp(disch:=omega)only[go_sem]
    refine zA (qP l hl i3 h3 hi3 [0,1,3,6,12,13, -1] (by simp) (by simp)) ?_
    rintro r i4 h4 hi4 ⟨y,hy,rfl⟩
    have hy_b: -1≤y∧y≤13:=by
     simp only[List.mem_cons,List.not_mem_nil,or_false]at hy
     omega
    clear hy
    simp(disch:=omega)only[go_sem]
    exact qO (by simp(disch:=omega)only[go_sem]) ⟨rfl,rfl,m,C.map ExV.dyv,k,y,⟨hl3.1,hl3.2⟩,hk,hy_b,by rw[jY,List.length_map];rfl⟩
end Go.Ab
namespace Go.Ab
open Go
section
variable {σ:St}
end
theorem ags{l:List ExV}{i:Nat}(hi:i<l.length):cut (ql ExV.cs l) (i*3) 3=[.v (.bool (l.getD i ex0).s),.sl (lim (l.getD i ex0).m).length (qc (lim (l.getD i ex0).m)),.v (.int .i64 (l.getD i ex0).e)]:=QU (l:=l) agu hi ex0
theorem asO{l:List ExV}{i sz:Nat}(hi:i<l.length):rdA false sz (ql ExV.cs l) (i*3+1)=.sl (lim (l.getD i ex0).m).length (qc (lim (l.getD i ex0).m)):=by
 have h:=ags hi
 have h2:(cut (ql ExV.cs l) (i*3) 3)[1]? =some (.sl (lim (l.getD i ex0).m).length (qc (lim (l.getD i ex0).m))):=by rw[h];rfl
 unfold cut at h2
 rw[List.getElem?_take_of_lt (by omega),List.getElem?_drop]at h2
 show(ql ExV.cs l).getD (i*3+1) _=_
 rw[List.getD_eq_getElem?_getD,h2];rfl
end Go.Ab
namespace Go.Ab
open Go Go.Proofs
theorem aQw{l:List ExV}{i sz:Nat}(hi:i<l.length):rdA false sz (ql ExV.cs l) (i*3+2)=.v (.int .i64 (l.getD i ex0).e):=by
 have h:=ags hi
 have h2:(cut (ql ExV.cs l) (i*3) 3)[2]? =some (.v (.int .i64 (l.getD i ex0).e)):=by rw[h];rfl
 unfold cut at h2
 rw[List.getElem?_take_of_lt (by omega),List.getElem?_drop]at h2
 show(ql ExV.cs l).getD (i*3+2) .un=_
 rw[List.getD_eq_getElem?_getD,h2];rfl
/-! ### A root's residual-/
theorem arH{n K:Nat}{Y L:List ExV}(hY:Y.length=n*n)(hL:L.length=n*n)(eY:eK K Y)(eL:eK (K+K) L):eK (K+K) (jt n (qY n Y Y) L)∧∀i j,i<n→j<n→mv (K+K) (jt n (qY n Y Y) L) n i j=qD (fun t=>mv K Y n i t*mv K Y n t j) n-mv (K+K) L n i j:=by
 have key:∀i j,i<n→j<n→ -((K+K:Nat):Int)≤(((qY n Y Y).getD (i*n+j) ex0).plus (L.getD (i*n+j) ex0).neg).e∧(((qY n Y Y).getD (i*n+j) ex0).plus (L.getD (i*n+j) ex0).neg).val (K+K)=qD (fun t=>mv K Y n i t*mv K Y n t j) n-mv (K+K) L n i j:=fun i j hi hj=>by
  obtain⟨h1,h2⟩:=agz eY eY hY hY hi hj n (Nat.le_refl n)
  have hx:=qS hi hj
  have h3:=aaY eL (i:=i*n+j) (by rw[hL];exact hx)
  have e:(qY n Y Y).getD (i*n+j) ex0=QM n Y Y i j n:=by unfold qY;rw[aUl hi hj]
  rw[e]
  refine⟨aaw (y:=ExV.neg _) h2 h3,?_⟩
  rw[Qo (y:=ExV.neg _) h2 h3,aPa,h1];rfl
 constructor
 ·intro x hx
  unfold jt gl at hx
  obtain⟨t,ht,rfl⟩:=List.mem_map.1 hx
  have ht:=List.mem_range.1 ht
  have hn:0<n:=Nat.pos_of_ne_zero fun e=>by subst e;simp at ht
  exact(key _ _ ((Nat.div_lt_iff_lt_mul hn).2 ht) (Nat.mod_lt t hn)).1
 ·intro i j hi hj
  unfold jt
  show(List.getD (gl n _ (n*n)) (i*n+j) ex0).val (K+K)=_
  rw[aUl hi hj]
  exact(key i j hi hj).2
theorem aFt{n K:Nat}{X L:List ExV}(hX:X.length=n*n)(hL:L.length=n*n)(eX:eK K X)(eL:eK (K+K) L):(yS n (X.map ExV.can) L).can=(yS n X L).can:=by
 have hX':(X.map ExV.can).length=n*n:=by rw[List.length_map];exact hX
 have eX':eK K (X.map ExV.can):=fun x hx=>by
  obtain⟨y,hy,rfl⟩:=List.mem_map.1 hx
  exact abw (eX y hy)
 obtain⟨a1,a2⟩:=arH hX hL eX eL
 obtain⟨b1,b2⟩:=arH hX' hL eX' eL
 obtain⟨c1,c2⟩:=ZZ (n:=n) a1 zg n (Nat.le_refl n)
 obtain⟨d1,d2⟩:=ZZ (n:=n) b1 zg n (Nat.le_refl n)
 have hm:∀i j,i<n→j<n→mv K (X.map ExV.can) n i j=mv K X n i j:=fun i j hi hj=>by
  have hx:=qS hi hj
  unfold mv
  rw[aPf (by rw[hX];exact hx),afO (aaY eX (by rw[hX];exact hx))]
 refine aJx (K:=K+K) d2 c2 ?_
 unfold yS
 rw[d1,c1]
 refine Z3 fun j hj=>qI fun i hi=>?_
 rw[b2 i j hi hj,a2 i j hi hj]
 have:qD (fun t=>mv K (X.map ExV.can) n i t*mv K (X.map ExV.can) n t j) n=qD (fun t=>mv K X n i t*mv K X n t j) n:=qI fun t ht=>by rw[hm i t hi ht,hm t j ht hj]
 rw[this]
theorem Xf(n:Nat)(L X:List ExV)(h:matV n L)(hX:matV n X):Con Tryz.prog 31 false [.ag [.v (.int .i64 (n)),.sl (L).length (ql ExV.cs (L))],.ag [.v (.int .i64 (n)),.sl (X).length (ql ExV.cs (X))]] [] (isA (.tu [.ag [.v (.bool ((yS n X L).tel).s),.sl (lim ((yS n X L).tel).m).length (qc (lim ((yS n X L).tel).m)),.v (.int .i64 ((yS n X L).tel).e)],.v (.bool (yS n X L).fit)])):=by
 refine Con.frzA ?_
 have ca:=abl n n L X h hX
 rw[decide_eq_true rfl]at ca
 have cg1:=zY n L (by have:=h.l16;omega)
 have cg2:=zY n X (by have:=hX.l16;omega)
 have bX:gbd (-10000) 10000 X:=qw hX.bd (by omega) (by omega)
 have bL:gbd (-10000) 10000 L:=qw h.bd (by omega) (by omega)
 have cr:=Zf n X L h.n4 hX.len h.len bX bL
 have cd:=aQO (yS n X L) ((aeS h.n4 hX.len h.len bX bL).2.2.mono (by omega) (by omega))
 generalize yS n X L=R at*
 refine Con.of_w (rs:=[.cell 4 42,.tmp 5]) Tryz.func31 rfl Tryz.ntmps31 rfl ?_
 simp(disch:=omega)only[go_sem]
 refine qn (ca) ?_
 simp(disch:=omega)only[go_sem]
 refine qs rfl [⟨0,[],[]⟩,⟨2,[0],[]⟩,⟨1,[2],[]⟩,⟨3,[],[]⟩,⟨4,[],[]⟩,⟨5,[],[]⟩,⟨6,[],[]⟩,⟨7,[],[]⟩,⟨8,[],[]⟩,⟨9,[],[]⟩] (by kernel_rfl) ?_
 simp(disch:=omega)only[go_sem]
 refine qa (cg2) ?_
 simp(disch:=omega)only[go_sem]
 refine qa (cg1) ?_
 simp(disch:=omega)only[go_sem]
 refine qa (cr) ?_
 simp(disch:=omega)only[go_sem]
 refine qa (cd) ?_
 simp(disch:=omega)only[go_sem]
 exact qj
theorem aNX{x:ExV}{low md:Int}:(x.rnd low md).can.m=0∨low≤(x.rnd low md).can.e:=by
 by_cases h0:(x.rnd low md).m=0
 ·left
  show oM _=0
  rw[h0,y6]
 ·right
  have e3:(x.rnd low md).can.e=(x.rnd low md).e+tz (x.rnd low md).m:=by show oE _ _=_;unfold oE;rw[if_neg h0]
  have:low≤(x.rnd low md).e:=by
   have h1:roM x.s x.m x.e low md≠0:=h0
   show low≤roE x.m x.e low
   unfold roM at h1
   unfold roE
   by_cases c:low≤x.e∨x.m=0
   ·rw[if_pos c]at h1 ⊢
    rcases c with c|c
    ·exact c
    ·exact absurd c h1
   ·rw[if_neg c];exact Int.le_refl _
  omega
set_option maxRecDepth 100000 in
theorem ash(l:List UInt8)(hl:l.length≤9223372036854775807):Con Tryz.prog 6 true [.sl l.length (qk l)] [] (isA (.v (.bool true))):=by
 refine Con.of_w (rs:=[.tmp 2]) Tryz.func6 rfl Tryz.ntmps6 rfl ?_
 simp(disch:=omega)only[go_sem]
 refine zb (JC l hl) (by simp(disch:=omega)only[go_sem]) ?_
 rintro r hs ⟨rfl, -,⟨k,M,low,st,⟨a1,a2⟩,hlow,hst,rfl⟩⟩
 refine⟨by simp[qT],?_⟩
 simp(disch:=omega)only[go_sem]
 cases hB:YM k M
 ·have ca:=JP k M low a1 a2 hB
  have ce:=yd _ low st ca ⟨_,_,_,rfl⟩
  refine qa (ce) ?_
  simp(disch:=omega)only[go_sem]
  refine qn (QF) ?_
  simp(disch:=omega)only[go_sem]
  exact qy
 obtain⟨n,L,rfl,rfl,h⟩:=aJe hB
 rw[jY,List.length_map]
 by_cases hs12:(decide (0≤st)&&decide (st≤12))=false
 ·have ce:=JR n L low st h hs12
  refine qa (ce) ?_
  simp(disch:=omega)only[go_sem]
  refine qn (QF) ?_
  simp(disch:=omega)only[go_sem]
  exact qy
 have hs12:0≤st∧st≤12:=by
  have:=eq_true_of_ne_false hs12
  simp only[Bool.and_eq_true,decide_eq_true_eq]at this
  exact this
 obtain⟨steps,rfl⟩:=Int.eq_ofNat_of_zero_le hs12.1
 cases ha:aRo n L low
 ·have ca:=yA n L low h
  rw[ha]at ca
  have ce:=yd _ low (steps:Int) ca ⟨_,_,_,rfl⟩
  refine qa (ce) ?_
  simp(disch:=omega)only[go_sem]
  refine qn (QF) ?_
  simp(disch:=omega)only[go_sem]
  exact qy
 have c1:=abn n L low steps h ha (by omega)
 cases hf:ak4 n L low steps
 ·rw[hf,if_neg (by simp),qo]at c1
  refine qa (c1) ?_
  simp(disch:=omega)only[go_sem]
  refine qn (QF) ?_
  simp(disch:=omega)only[go_sem]
  exact qy
 rw[hf,if_pos rfl]at c1
 unfold ak4 at hf
 simp only[Bool.and_eq_true]at hf
 obtain⟨hAll,hX,hR⟩:=hf
 unfold aRo at ha
 simp only[Bool.and_eq_true,decide_eq_true_eq]at ha
 have hlo:=ha.1
 have h4:=h.n4
 have hS:=(arK (w:=low-10) h4 h.len h.bd (by omega) steps (by omega) hAll).1
 have lX:(rtX n L low steps).length=n*n:=Qw
 have bX:gbd (-10000) 10000 (rtX n L low steps):=qw (Je (low:=low) (mode:=0) (aeU steps).1 hS (by omega) (by omega)) (by omega) (by omega)
 have hlowX:∀x∈(rtX n L low steps).map ExV.can,x.m=0∨low≤x.e:=fun x hx=>by
  obtain⟨y,hy,rfl⟩:=List.mem_map.1 hx
  obtain⟨t,_,rfl⟩:=List.mem_map.1 hy
  exact aNX
 obtain⟨-, -,g3⟩:=aUn (l:=rtX n L low steps) h.n1 h4 lX hX
 have hcan:=aFt (K:=10000) (X:=rtX n L low steps) (L:=L) lX h.len (fun x hx=>by have:=(bX x hx).2.1;omega) (fun x hx=>by have:=(h.bd x hx).2.1;omega)
 have cr:=Xf n L ((rtX n L low steps).map ExV.can) h g3
 have hfit:(yS n ((rtX n L low steps).map ExV.can) L).fit=true:=by rw[←Xi,hcan,Xi];exact hR
 rw[aNy hfit,hcan,hfit]at cr
 have oR:(yS n (rtX n L low steps) L).can.ok=true:=abv hR
 have cs:=as9 (yS n (rtX n L low steps) L).can (yS n (rtX n L low steps) L).can oR oR
 rw[decide_eq_true rfl]at cs
 generalize (yS n (rtX n L low steps) L).can=R at*
 generalize hXX:(rtX n L low steps).map ExV.can=X at*
 have lX2:X.length=n*n:=g3.len
 have hq:=jv h4
 refine qa (c1) ?_
 simp(disch:=omega)only[go_sem]
 refine qa (cr) ?_
 simp(disch:=omega)only[go_sem]
 refine qh (fun i:Nat=>[(3,.pt 2 0),(4,.v (.int .i64 low)),(6,.pt 3 0),(7,.pt 4 0),(9,.pt 5 0),(10,.v (.bool true)),(11,.v (.int .i64 i))])
  (fun _=>[(2,.own 0 [.v (.int .i64 n),.sl L.length (ql ExV.cs L)]),(3,.own 0 [.v (.int .i64 n),.sl X.length (ql ExV.cs X)]),(4,.own 0 [.v (.bool R.s),.sl (lim R.m).length (qc (lim R.m)),.v (.int .i64 R.e)]),(5,.own 0 [.v (.bool R.s),.sl (lim R.m).length (qc (lim R.m)),.v (.int .i64 R.e)])]) (fun i=>i≤X.length) (fun i=>X.length-i) 0 (by omega)
  (Le.lst [(2,50000000),(3,80000000),(4,90000000),(5,110000000)] _ _ rfl (by simp(disch:=omega)only[go_sem]) (by simp(disch:=omega)only[go_sem])) ?_
 intro i hi
 simp(disch:=omega)only[go_sem]
 refine qe (fun c1=>?_) (fun c1=>?_)
 ·have hi2:i<X.length:=by omega
  have hx:=hlowX (X.getD i ex0) (by rw[List.getD_eq_getElem?_getD,List.getElem?_eq_getElem hi2];exact List.getElem_mem _)
  simp(disch:=omega)only[go_sem,c1]
  refine⟨by omega,?_⟩
  rw[YP,asO hi2]
  refine⟨by rw[yw];show i*3+1+1≤_;omega,?_⟩
  by_cases h0:(X.getD i ex0).m=0
  ·rw[h0,qo]
   simp(disch:=omega)only[go_sem,show decide ((0:Int)<(([]:List Int).length:Int))=false from rfl]
   exact qb (i+1) [] (by show i+1≤X.length;omega) (by show X.length-(i+1)<X.length-i;omega) rfl (by simp(disch:=omega)only[go_sem];try omega) (by simp(disch:=omega)only[go_sem])
  ·have hpos:=yV h0
   have hle:=hx.resolve_left h0
   simp(disch:=omega)only[go_sem,decide_eq_true (show(0:Int)<((lim (X.getD i ex0).m).length:Int) by omega)]
   refine⟨by omega,?_⟩
   rw[YP,aQw hi2]
   refine⟨by rw[yw];show i*3+2+1≤_;omega,?_⟩
   simp(disch:=omega)only[go_sem,decide_eq_false (show ¬(X.getD i ex0).e<low by omega)]
   exact qb (i+1) [] (by show i+1≤X.length;omega) (by show X.length-(i+1)<X.length-i;omega) rfl (by simp(disch:=omega)only[go_sem];try omega) (by simp(disch:=omega)only[go_sem])
 ·simp(disch:=omega)only[go_sem,c1]
  refine qn (cs) ?_
  simp(disch:=omega)only[go_sem]
  exact qy
end Go.Ab
namespace Go.Proofs.YtgkehjnacdccfaaGreatDoor
open Go.ChangeShapes Go.WideShapes Go.ChangeAt Go.RowKit Go.Ab
theorem own:ownKnob Tryz.prog.godebug=none:=by kernel_rfl
theorem asi:laidOutB Tryz.prog=true:=by kernel_rfl
theorem ark:Tryz.prog.globalNamed "math/bits.deBruijn64tab" =some 1:=by kernel_rfl
theorem aNA:(Tryz.prog.globals[1]?).map (·.type)=some 285:=by kernel_rfl
theorem aNz:Tryz.prog.underlying 285=some (.array 64 5):=by kernel_rfl
theorem aND:Tryz.prog.underlying 5=some (.int .u8):=by kernel_rfl
theorem aNE:Tryz.prog.cellsOf 5=1:=by kernel_rfl
theorem aNB:Tryz.prog.cellsOf 285=64:=by kernel_rfl
noncomputable def yK:List (String×DataW Unit):=[("math/bits.deBruijn32tab",Rows.laid_math_bits_deBruijn32tab),("math/bits.deBruijn64tab",Rows.laid_math_bits_deBruijn64tab)]
theorem aNC{W:World}(h:laidMetH Tryz.prog yK W):Gd W:=by
 have h':laidMet Tryz.prog yK W:=h
 have h2:laidMet Tryz.prog [("math/bits.deBruijn64tab",Lib.tabData .u8 (Lib.deBruijn64tab.map Int.ofNat))] W:=laidMet.tail h'
 have hT:=Lib.tabIs_of_head ark aNA aNz aND aNE aNB h2
 intro g l hg
 unfold glb at hg
 split at hg
 ·rename_i e
  subst e
  cases hg
  have hc:∀i,i<Lib.deBruijn64tab.length→W.cell? ⟨1,i,none⟩=some (.int .u8 ((Lib.deBruijn64tab.getD i 0:Nat):Int)):=fun i hi=>by
   have:=hT.cell ark i (by simpa using hi)
   rw[this]
   simp[List.getD,hi]
  exact⟨agG (hc 0 (by decide)),hc⟩
 ·cases hg
noncomputable def aaL(os:Os):World:=
 let w0:=World.holding Tryz.prog os ⟨#[],#[],[]⟩
 {w0 with heap:=(w0.heap.modify 1 fun
   | .cells _ t frozen=>.cells (Lib.deBruijn64tab.map fun z=>Value.int .u8 (Int.ofNat z)).toArray t frozen
   |o=>o).modify 0 fun
   | .cells _ t frozen=>.cells (Lib.deBruijn32tab.map fun z=>Value.int .u8 (Int.ofNat z)).toArray t frozen
   |o=>o}
theorem YS(os:Os)(args:Array Value):laidMetH Tryz.prog yK ((aaL os).forCall (fun _ _=>0) ⟨#[],args,[]⟩).memory:=
 laidMetH_of_parts (laidMet_of_run' 8 (by kernel_rfl) (by kernel_rfl)) (by kernel_rfl)
end Go.Proofs.YtgkehjnacdccfaaGreatDoor
