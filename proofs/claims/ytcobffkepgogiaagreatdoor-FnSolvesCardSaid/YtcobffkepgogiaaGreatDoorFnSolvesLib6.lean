/- What the proof of this claim stands on: the walks of the functions and the plain laws, part 6. -/
import Derived.Test.YtcobffkepgogiaaGreatDoorFnSolvesLib5
import Derived.Test.YtcobffkepgogiaaGreatDoorRows
import Derived.Test.YtcobffkepgogiaaGreatDoorCards
import Derived.Test.YtcobffkepgogiaaGreatDoorTie
import Derived.Handed
import Derived.ChangeSame
import Derived.JoinedOf
import Derived.RowKit
import Derived.WalkKit
import Derived.ProofKit
import Derived.OpenShut
import Derived.LaidLaws
import Derived.LaidHandle
import Derived.SevenTiedAt
import Derived.Stop.LaidErr
import Derived.Lib.LaidTab
set_option linter.unusedVariables false
set_option linter.unusedSimpArgs false
namespace Go.Ab
open Go Go.Proofs
section
variable (l:List UInt8)(hl:l.length≤9223372036854775807)(i h:Int)(hi:0≤i∧i≤l.length)
include hl hi
def aK7(r:AV):Prop:=∃L:List DyV,L.length≤101∧(∀d∈L,d.xs.length≤200)∧r=.sl L.length (qm DyV.cs L)
theorem JL(k:Int)(hk:k≤100):Con Tryz.prog 78 false [.pt 10000000 0,.v (.int .i64 k)] [.own 0 [.sl l.length (qj l),.v (.int .i64 i),.v (.int .i64 h)]] (J8 l aK7):=by
 refine Con.cur l i h (Q:=fun r hs=>(∀ob∈hs,ob.men fun _=>False)∧aK7 (qE (rhp hs []) 6 r)) ?_ fun _ _ h=>h
 have hm:∀(M:List DyV),∀ob∈[Ob.own 3 (qm DyV.cs M)],ob.men fun _=>False:=fun M ob ho=>by rw[List.mem_singleton.1 ho];exact of_eq_true aem
 have hq:∀(M:List DyV),M.length≤101→(∀d∈M,d.xs.length≤200)→aK7 (qE (rhp [.own 3 (qm DyV.cs M)] []) 6 (.rf 0 0 M.length)):=fun M h1 h2=>⟨M,h1,h2,by
  show qE _ 6 _=_
  simp(disch:=omega)only[go_sem,qX,ael]⟩
 refine Con.of_aw Tryz.func78 rfl Tryz.ntmps78 (by simp) (by simp) (by simp) (W.sound ?_)
 show @W Tryz.prog 25 ⟨_⟩ ⟨fun x σ=>@qW _ _ _ ⟨_⟩ _ ⟨_⟩ x σ⟩ _ _
 simp(disch:=omega)only[go_sem]
 refine qh (fun x:List DyV×Int×Int=>[(0,.pt 10000000 0),(1,.v (.int .i64 k)),(5,.rf 3 0 x.1.length),(6,.v (.int .i64 x.1.length))])
  (fun x=>[(3,.own 3 (qm DyV.cs x.1)),(10000000,.own 0 [.sl l.length (qj l),.v (.int .i64 x.2.1),.v (.int .i64 x.2.2)])])
  (fun x=>x.1.length≤100∧(∀d∈x.1,d.xs.length≤200)∧(0≤x.2.1∧x.2.1≤l.length)) (fun x=>k.toNat-x.1.length) ([],i,h) ⟨by simp,by simp,hi⟩
  ((Le.ghost 5 3 3 (by simp(disch:=omega)only[go_sem]) (by simp(disch:=omega)only[go_sem])).trans (Le.lst [] _ _ rfl (by simp(disch:=omega)only[go_sem]) (by simp(disch:=omega)only[go_sem];try rfl))) ?_
 rintro⟨L,i2,h2⟩ ⟨hL,hok,hi2⟩
 dsimp only at hL hok hi2 ⊢
 simp(disch:=omega)only[go_sem]
 refine qe (fun c1=>?_) (fun c1=>?_)
 ·simp(disch:=omega)only[go_sem,c1]
  refine qu (Jp l hl i2 h2 hi2) ?_
  rintro r i3 h3 hi3 ⟨x,hx,rfl⟩
  simp(disch:=omega)only[go_sem]
  have hx2:(lim x.m).length≤200:=by have:=(zG hx).2.2.1;omega
  have hl2:(L++[DyV.mk x.s (lim x.m) x.e]).length=L.length+1:=by simp
  rw[ael,afw]
  exact⟨by omega,qb (L++[⟨x.s,lim x.m,x.e⟩],i3,h3) [(3,180000000)] ⟨by dsimp only;omega,fun d hd=>by
   rcases List.mem_append.1 hd with hd|hd
   ·exact hok d hd
   ·rw[List.mem_singleton.1 hd];exact hx2,hi3⟩ (by show k.toNat-(L++[_]).length<k.toNat-L.length;omega) rfl (by simp(disch:=omega)only[go_sem,hl2];try omega) (by simp(disch:=omega)only[go_sem])⟩
 ·simp(disch:=omega)only[go_sem,c1]
  refine qu (qS l hl i2 h2 hi2 15 (by omega)) ?_
  rintro r i3 h3 hi3 ⟨b,rfl⟩
  simp(disch:=omega)only[go_sem]
  cases b
  ·simp(disch:=omega)only[go_sem]
   refine qg [(0,3)] [.own 3 (qm DyV.cs L)] [.own 0 [.sl l.length (qj l),.v (.int .i64 i3),.v (.int .i64 h3)]] [.rf 0 0 L.length] rfl (by simp(disch:=omega)only[go_sem]) (by simp(disch:=omega)only[go_sem]) (by simp) (by simp) ⟨⟨hm L,hq L (by omega) hok⟩,_,_,hi3,rfl⟩
  ·simp(disch:=omega)only[go_sem]
   refine qu (Yg l hl i3 h3 hi3) ?_
   rintro r i4 h4 hi4 ⟨⟨S,xs,E⟩,hd,hr⟩
   obtain rfl:r=.ag [.v (.bool S),.sl xs.length (qc xs),.v (.int .i64 E)]:=hr
   dsimp only at hd
   simp(disch:=omega)only[go_sem]
   have hl2:(L++[DyV.mk S xs E]).length=L.length+1:=by simp
   rw[ael,afw]
   refine⟨by omega,qg [(0,250000000)] [.own 3 (qm DyV.cs (L++[⟨S,xs,E⟩]))] [.own 0 [.sl l.length (qj l),.v (.int .i64 i4),.v (.int .i64 h4)]] [.rf 0 0 (L.length+1)] rfl (by simp(disch:=omega)only[go_sem]) (by simp(disch:=omega)only[go_sem]) (by simp) (by simp) ⟨⟨hm _,?_⟩,_,_,hi4,rfl⟩⟩
   rw[←hl2]
   exact hq _ (by omega) fun d hd'=>by
    rcases List.mem_append.1 hd' with hd'|hd'
    ·exact hok d hd'
    ·rw[List.mem_singleton.1 hd'];exact hd
end
end Go.Ab
namespace Go.Ab
open Go Go.Proofs
/-! ### Polynomials of a matrix-/
def bck(n:Nat)(L:List ExV):Nat→List ExV
 |0=>gId n
 |k+1=>aPQ n (bck n L k) L
def ber(n:Nat)(L p:List ExV):Nat→List ExV
 |0=>jD n (gId n) ex0
 |k+1=>bab n (ber n L p k) (jD n (bck n L k) (p.getD k ex0))
theorem aZZ{p:List ExV}(hp:∀x∈p,x.ok=true)(k:Nat):(p.getD k ex0).ok=true:=by
 rw[List.getD_eq_getElem?_getD]
 rcases Nat.lt_or_ge k p.length with h|h
 ·rw[List.getElem?_eq_getElem h];exact hp _ (List.getElem_mem h)
 ·rw[List.getElem?_eq_none h];exact J7
end Go.Ab
namespace Go.Ab
def idI(i j:Nat):Int:=if i=j then 1 else 0
def bcj(n:Nat)(A:Nat→Nat→Int):Nat→Nat→Nat→Int
 |0=>idI
 |k+1=>yi n (bcj n A k) A
def pm3(A:Nat→Nat→Int)(r:Nat):Int:=zT 3 (ad4 A r r)
end Go.Ab
namespace Go.Ab
/-! ### Ranks-/
theorem ZJ{f:Nat→Int}{k:Nat}:∀{m:Nat},k≤m→(∀i,k≤i→f i=0)→qA f m=qA f k
 |0,h,_=>by
  obtain rfl:k=0:=by omega
  rfl
 |m+1,h,hz=>by
  by_cases e:k=m+1
  ·rw[e]
  ·rw[qA,ZJ (by omega) hz,hz m (by omega),Int.add_zero]
def ajr(n k:Nat)(A:Nat→Nat→Int):Prop:=∃(c:Int) (B C:Nat→Nat→Int),c≠0∧∀i j,i<n→j<n→c*A i j=qA (fun t=>B i t*C t j) k
theorem QF{n k:Nat}{A A':Nat→Nat→Int}(h:∀i j,i<n→j<n→A i j=A' i j):ajr n k A→ajr n k A'
 |⟨c,B,C,h0,h1⟩=>⟨c,B,C,h0,fun i j hi hj=>by rw[←h i j hi hj];exact h1 i j hi hj⟩
theorem KT{n k:Nat}{A:Nat→Nat→Int}:ajr n k A→ajr n k (fun i j=>A j i)
 |⟨c,B,C,h0,h1⟩=>⟨c,fun i t=>C t i,fun t j=>B j t,h0,fun i j hi hj=>by
  rw[h1 j i hj hi];exact qG fun t _=>Int.mul_comm _ _⟩
theorem Zq(n k:Nat)(f:Nat→Int)(g:Nat→Nat→Int)(h:Nat→Int):qA (fun s=>qA (fun t=>f t*g t s) k*h s) n=qA (fun t=>f t*qA (fun s=>g t s*h s) n) k:=by
 have e1:qA (fun s=>qA (fun t=>f t*g t s) k*h s) n=qA (fun s=>qA (fun t=>f t*(g t s*h s)) k) n:=
  qG fun s _=>by rw[←QH];exact qG fun t _=>Int.mul_assoc _ _ _
 have e2:qA (fun t=>f t*qA (fun s=>g t s*h s) n) k=qA (fun t=>qA (fun s=>f t*(g t s*h s)) n) k:=
  qG fun t _=>by rw[←yE]
 rw[e1,e2,JT]
theorem aoX{n k:Nat}{A:Nat→Nat→Int}(D:Nat→Nat→Int):ajr n k A→ajr n k (yi n A D)
 |⟨c,B,C,h0,h1⟩=>⟨c,B,yi n C D,h0,fun i j hi hj=>by
  show c*qA (fun t=>A i t*D t j) n=qA (fun t=>B i t*qA (fun s=>C t s*D s j) n) k
  rw[←Zq,←yE]
  exact qG fun s hs=>by rw[←h1 i s hi hs,Int.mul_assoc]⟩
theorem KU{n k:Nat}{A:Nat→Nat→Int}(D:Nat→Nat→Int):ajr n k A→ajr n k (yi n D A)
 |⟨c,B,C,h0,h1⟩=>⟨c,yi n D B,C,h0,fun i j hi hj=>by
  show c*qA (fun t=>D i t*A t j) n=qA (fun t=>qA (fun s=>D i s*B s t) n*C t j) k
  rw[Zq,←yE]
  exact qG fun s hs=>by rw[←h1 s j hs hj,Int.mul_left_comm]⟩
def dgI(c:Int)(i j:Nat):Int:=if i=j then c else 0
theorem aPu{n:Nat}(c:Int)(A:Nat→Nat→Int){i j:Nat}(hi:i<n):yi n (dgI c) A i j=c*A i j:=by
 unfold yi
 rw[je (j:=i) hi (fun t _ hne=>by unfold dgI;rw[if_neg (fun h=>hne h.symm),Int.zero_mul])]
 unfold dgI;rw[if_pos rfl]
theorem aTE{n:Nat}(hn:n≤4){c:Int}(hc:c≠0):zT n (dgI c)≠0:=by
 rcases(show n=0∨n=1∨n=2∨n=3∨n=4 by omega)with rfl|rfl|rfl|rfl|rfl
 ·intro h;cases h
 ·rw[asc];simp[dgI,hc]
 ·rw[akQ];simp[dgI,hc]
 ·rw[akP];simp[dgI,hc]
 ·rw[aFL];simp[dgI,hc]
theorem aDo{n:Nat}(hn:n≤4)(h1:1≤n){A:Nat→Nat→Int}(h:∀i,A i (n-1)=0):zT n A=0:=by
 rcases(show n=1∨n=2∨n=3∨n=4 by omega)with rfl|rfl|rfl|rfl
 ·have:=h 0
  rw[asc];simpa using this
 ·have h:∀i,A i 1=0:=h
  rw[akQ];simp[h]
 ·have h:∀i,A i 2=0:=h
  rw[akP];simp[h]
 ·have h:∀i,A i 3=0:=h
  rw[aFL];simp[h]
theorem aBd{n k:Nat}(hn:n≤4)(hk:k<n){A:Nat→Nat→Int}:ajr n k A→zT n A=0
 |⟨c,B,C,h0,h1⟩=>by
  have e:zT n (yi n (dgI c) A)=zT n (yi n (fun i t=>if t<k then B i t else 0) C):=jv fun i j hi hj=>by
   rw[aPu c A hi,h1 i j hi hj]
   show _=qA (fun t=>(if t<k then B i t else 0)*C t j) n
   rw[ZJ (f:=fun t=>(if t<k then B i t else 0)*C t j) (k:=k) (by omega) (fun t ht=>by rw[if_neg (by omega),Int.zero_mul])]
   exact qG fun t ht=>by rw[if_pos ht]
  rw[Jf hn,Jf hn,aDo hn (by omega) (A:=fun i t=>if t<k then B i t else 0) (fun i=>if_neg (by omega)),Int.zero_mul]at e
  exact(Int.mul_eq_zero.1 e).resolve_left (aTE hn h0)
theorem aqH{r:Nat}(hr:r≤4){T:Nat→Nat→Int}(hd:∀t,t<r→T t t≠0)(hz:∀s t,t<s→s<r→T s t=0):zT r T≠0:=by
 rcases(show r=0∨r=1∨r=2∨r=3∨r=4 by omega)with rfl|rfl|rfl|rfl|rfl
 ·intro h;cases h
 ·rw[asc];exact hd 0 (by omega)
 ·rw[akQ,hz 1 0 (by omega) (by omega)]
  simp[hd 0 (by omega),hd 1 (by omega)]
 ·rw[akP,hz 1 0 (by omega) (by omega),hz 2 0 (by omega) (by omega),hz 2 1 (by omega) (by omega)]
  simp[hd 0 (by omega),hd 1 (by omega),hd 2 (by omega)]
 ·rw[aFL,hz 1 0 (by omega) (by omega),hz 2 0 (by omega) (by omega),hz 2 1 (by omega) (by omega),hz 3 0 (by omega) (by omega),hz 3 1 (by omega) (by omega),hz 3 2 (by omega) (by omega)]
  simp[hd 0 (by omega),hd 1 (by omega),hd 2 (by omega),hd 3 (by omega)]
structure isRank(n:Nat)(A:Nat→Nat→Int)(r:Nat):Prop where
 le:r≤n
 up:ajr n r A
 low:∀k,ajr n k A→r≤k
 full:r=n→zT n A≠0
theorem isRank.turn{n r s:Nat}{A:Nat→Nat→Int}(h:isRank n A r)(g:isRank n (fun i j=>A j i) s):s=r:=
 Nat.le_antisymm (g.low r (KT h.up)) (h.low s (KT g.up))
theorem isRank.congr{n r:Nat}{A B:Nat→Nat→Int}(h:isRank n A r)(e:∀i j,i<n→j<n→A i j=B i j):isRank n B r:=
 ⟨h.le,QF e h.up,fun k hk=>h.low k (QF (fun i j hi hj=>(e i j hi hj).symm) hk),fun hr=>by rw[←jv e];exact h.full hr⟩
theorem isRank.mul{n r s t:Nat}{A B:Nat→Nat→Int}(h:isRank n A r)(g:isRank n B s)(p:isRank n (yi n A B) t):t≤r∧t≤s:=
 ⟨p.low r (aoX B h.up),p.low s (KU A g.up)⟩
structure elim(n:Nat)(A C:Nat→Nat→Int)(r j:Nat):Prop where
 le:r≤n
 rj:r≤j
 u:∃U:Nat→Nat→Int,zT n U≠0∧∀i k,i<n→k<n→C i k=yi n U A i k
 p:∃p:Nat→Nat,∀t,t<r→p t<j∧p t<n∧C t (p t)≠0∧∀s,t<s→s<n→C s (p t)=0
 z:∀i k,r≤i→i<n→k<j→k<n→C i k=0
theorem J4(n:Nat)(A B C:Nat→Nat→Int)(i j:Nat):yi n (yi n A B) C i j=yi n A (yi n B C) i j:=
 Zq n n (fun t=>A i t) B (fun s=>C s j)
theorem elim.rank{n:Nat}(hn:n≤4){A C:Nat→Nat→Int}{r:Nat}(h:elim n A C r n):isRank n A r:=by
 obtain⟨hle, -,⟨U,hU,hC⟩,⟨p,hp⟩,hz⟩:=h
 have lowC:∀k,ajr n k C→r≤k:=fun k hk=>by
  rcases Nat.lt_or_ge k r with g|g
  ·exfalso
   obtain⟨c,B,D,h0,h1⟩:=hk
   have ht:ajr r k (fun s t=>C s (p t)):=⟨c,B,fun u t=>D u (p t),h0,fun s t hs ht=>h1 s (p t) (by omega) (hp t ht).2.1⟩
   exact aqH (by omega) (fun t ht=>(hp t ht).2.2.1) (fun s t hst hs=>(hp t (by omega)).2.2.2 s hst (by omega)) (aBd (by omega) g ht)
  ·exact g
 refine⟨hle,?_,fun k hk=>lowC k (QF (fun i j hi hj=>(hC i j hi hj).symm) (KU U hk)),fun hr hd=>?_⟩
 ·
  obtain⟨V,hV⟩:∃V:Nat→Nat→Int,∀i j,i<n→j<n→yi n V U i j=if i=j then zT n U else 0:=by
   refine⟨fun i j=>JQ n (fun a b=>U b a) j i,fun i j hi hj=>?_⟩
   have:=arW hn (fun a b=>U b a) hj hi
   rw[aDn hn]at this
   have e2:(if i=j then zT n U else 0)=if j=i then zT n U else 0:=by
    by_cases e:i=j
    ·rw[if_pos e,if_pos e.symm]
    ·rw[if_neg e,if_neg (fun h=>e h.symm)]
   rw[e2,←this]
   exact qG fun t _=>Int.mul_comm _ _
  refine⟨zT n U,V,C,hU,fun i j hi hj=>?_⟩
  have e1:qA (fun t=>V i t*C t j) r=qA (fun t=>V i t*C t j) n:=by
   have:qA (fun t=>V i t*C t j) n=qA (fun t=>if t<r then V i t*C t j else 0) n:=qG fun t ht=>by
    by_cases g:t<r
    ·rw[if_pos g]
    ·rw[if_neg g,hz t j (by omega) ht hj hj,Int.mul_zero]
   rw[this,ZJ hle (fun t ht=>if_neg (by omega))]
   exact qG fun t ht=>by rw[if_pos ht]
  rw[e1]
  have e2:qA (fun t=>V i t*C t j) n=yi n (yi n V U) A i j:=by
   rw[J4]
   exact qG fun t ht=>by rw[hC t j ht hj]
  rw[e2]
  show _=qA (fun t=>yi n V U i t*A t j) n
  rw[je (j:=i) hi (fun t ht hne=>by rw[hV i t hi ht,if_neg (fun h=>hne h.symm),Int.zero_mul]),hV i i hi hi,if_pos rfl]
 ·subst hr
  have h1:zT r C=0:=by
   rw[jv hC,Jf hn,hd,Int.mul_zero]
  have h2:zT r (yi r C (fun u t=>if u=p t then 1 else 0))=0:=by rw[Jf hn,h1,Int.zero_mul]
  refine aqH hn (T:=fun s t=>C s (p t)) (fun t ht=>(hp t ht).2.2.1) (fun s t hst hs=>(hp t (by omega)).2.2.2 s hst (by omega)) ?_
  rw[←h2]
  refine jv fun i j hi hj=>?_
  show C i (p j)=qA (fun u=>C i u*(if u=p j then 1 else 0)) r
  rw[je (j:=p j) (hp j hj).2.1 (fun t _ hne=>by rw[if_neg hne,Int.mul_zero]),if_pos rfl,Int.mul_one]
theorem elim.skip{n:Nat}{A C:Nat→Nat→Int}{r j:Nat}(h:elim n A C r j)(hz:∀i,r≤i→i<n→C i j=0):elim n A C r (j+1):=by
 obtain⟨h1,h2,h3,⟨p,hp⟩,h5⟩:=h
 refine⟨h1,by omega,h3,⟨p,fun t ht=>⟨by have:=(hp t ht).1;omega,(hp t ht).2⟩⟩,fun i k hi hin hk hkn=>?_⟩
 rcases(show k<j∨k=j by omega)with g|rfl
 ·exact h5 i k hi hin g hkn
 ·exact hz i hi hin
def swI(a b i:Nat):Nat:=if i=a then b else if i=b then a else i
theorem aqI{n:Nat}(hn:n≤4){a r:Nat}(ha:a<n)(hr:r<n)(hne:a≠r)(p q:Int)(hp:p≠0):zT n (fun i j=>if i=a then(if j=a then p else if j=r then-q else 0)else if i=j then 1 else 0)≠0:=by
 rcases(show n=1∨n=2∨n=3∨n=4 by omega)with rfl|rfl|rfl|rfl
 ·omega
 ·rw[akQ]
  rcases(show a=0∨a=1 by omega)with rfl|rfl<;>rcases(show r=0∨r=1 by omega)with rfl|rfl<;>first|omega|simp[hp]
 ·rw[akP]
  rcases(show a=0∨a=1∨a=2 by omega)with rfl|rfl|rfl<;>rcases(show r=0∨r=1∨r=2 by omega)with rfl|rfl|rfl<;>first|omega|simp[hp]
 ·rw[aFL]
  rcases(show a=0∨a=1∨a=2∨a=3 by omega)with rfl|rfl|rfl|rfl<;>rcases(show r=0∨r=1∨r=2∨r=3 by omega)with rfl|rfl|rfl|rfl<;>first|omega|simp[hp]
structure elimR(n:Nat)(A C:Nat→Nat→Int)(r j m:Nat):Prop where
 rn:r<n
 rj:r≤j
 jn:j<n
 rm:r<m
 u:∃U:Nat→Nat→Int,zT n U≠0∧∀i k,i<n→k<n→C i k=yi n U A i k
 p:∃p:Nat→Nat,∀t,t<r→p t<j∧p t<n∧C t (p t)≠0∧∀s,t<s→s<n→C s (p t)=0
 z:∀i k,r≤i→i<n→k<j→k<n→C i k=0
 pv:C r j≠0
 zm:∀i,r<i→i<m→i<n→C i j=0
theorem elim.pivot{n:Nat}{A C:Nat→Nat→Int}{r j:Nat}(h:elim n A C r j)(hr:r<n)(hj:j<n)(hp:C r j≠0):elimR n A C r j (r+1):=
 ⟨hr,h.rj,hj,by omega,h.u,h.p,h.z,hp,fun i h1 h2=>by omega⟩
theorem elimR.done{n:Nat}{A C:Nat→Nat→Int}{r j m:Nat}(h:elimR n A C r j m)(hm:n≤m):elim n A C (r+1) (j+1):=by
 obtain⟨h1,h2,h3,h4,h5,⟨p,hp⟩,h7,h8,h9⟩:=h
 refine⟨by omega,by omega,h5,⟨fun t=>if t=r then j else p t,fun t ht=>?_⟩,fun i k hi hin hk hkn=>?_⟩
 ·dsimp only
  by_cases e:t=r
  ·rw[if_pos e,e]
   exact⟨by omega,h3,h8,fun s hs hsn=>h9 s hs (by omega) hsn⟩
  ·rw[if_neg e]
   obtain⟨a,b,c,d⟩:=hp t (by omega)
   exact⟨by omega,b,c,d⟩
 ·rcases(show k<j∨k=j by omega)with g|rfl
  ·exact h7 i k (by omega) hin g hkn
  ·exact h9 i (by omega) (by omega) hin
theorem elimR.step{n:Nat}(hn:n≤4){A C C':Nat→Nat→Int}{r j m:Nat}(h:elimR n A C r j m)(hm:m<n)(h1:∀i k,i<n→k<n→i≠m→C' i k=C i k)(h2:∀k,k<n→C' m k=C m k*C r j-C r k*C m j):elimR n A C' r j (m+1):=by
 obtain⟨g1,g2,g3,g4,⟨U,hU,hC⟩,⟨p,hp⟩,g7,g8,g9⟩:=h
 refine⟨g1,g2,g3,by omega,⟨yi n (fun i k=>if i=m then(if k=m then C r j else if k=r then-C m j else 0)else if i=k then 1 else 0) U,?_,fun i k hi hk=>?_⟩,⟨p,fun t ht=>?_⟩,fun i k hi hin hk hkn=>?_,?_,fun i hi him hin=>?_⟩
 ·rw[Jf hn]
  intro e
  rcases Int.mul_eq_zero.1 e with e|e
  ·exact aqI hn hm g1 (by omega) (C r j) (C m j) g8 e
  ·exact hU e
 ·rw[J4]
  show C' i k=qA (fun t=>(if i=m then(if t=m then C r j else if t=r then-C m j else 0)else if i=t then 1 else 0)*yi n U A t k) n
  by_cases e:i=m
  ·subst e
   have e2:qA (fun t=>(if i=i then(if t=i then C r j else if t=r then-C i j else 0)else if i=t then 1 else 0)*yi n U A t k) n=qA (fun t=>(if t=i then C r j*C i k else 0)+(if t=r then-C i j*C r k else 0)) n:=qG fun t ht=>by
    rw[if_pos rfl,←hC t k ht hk]
    by_cases a:t=i
    ·rw[if_pos a,if_pos a,if_neg (show ¬t=r by omega),a,Int.add_zero]
    ·rw[if_neg a,if_neg a]
     by_cases b:t=r
     ·rw[if_pos b,if_pos b,b,Int.zero_add]
     ·rw[if_neg b,if_neg b,Int.zero_mul,Int.add_zero]
   rw[e2,ZK,je (j:=i) hi (fun t _ hne=>if_neg hne),je (j:=r) g1 (fun t _ hne=>if_neg hne),if_pos rfl,if_pos rfl,h2 k hk,Int.mul_comm (C i k),Int.neg_mul,Int.mul_comm (C r k)]
   omega
  ·rw[je (j:=i) hi (fun t _ hne=>by rw[if_neg e,if_neg (fun h=>hne h.symm),Int.zero_mul]),if_neg e,if_pos rfl,Int.one_mul,h1 i k hi hk e]
   exact hC i k hi hk
 ·obtain⟨a,b,c,d⟩:=hp t ht
  refine⟨a,b,?_,fun s hts hsn=>?_⟩
  ·rw[h1 t (p t) (by omega) b (by omega)];exact c
  ·by_cases e:s=m
   ·rw[e,h2 _ b,d m (by omega) hm,d r (by omega) g1];simp
   ·rw[h1 s _ hsn b e];exact d s hts hsn
 ·by_cases e:i=m
  ·rw[e,h2 k hkn,g7 m k (by omega) hm hk hkn,g7 r k (by omega) g1 hk hkn];simp
  ·rw[h1 i k hin hkn e];exact g7 i k hi hin hk hkn
 ·rw[h1 r j g1 g3 (by omega)];exact g8
 ·by_cases e:i=m
  ·rw[e,h2 j g3,Int.mul_comm];omega
  ·rw[h1 i j hin g3 e];exact g9 i hi (by omega) hin
end Go.Ab
namespace Go.Ab
/-! ### Sums of powers of a matrix,at one scale-/
def p2(k:Nat):Int:=2^k
theorem yY(a b:Nat):p2 (a+b)=p2 a*p2 b:=Int.pow_add 2 a b
theorem aac(a:Nat):0<p2 a:=Int.pow_pos (by omega)
def bfi(n:Nat)(P:Nat→Int)(A:Nat→Nat→Int)(m i j:Nat):Int:=qA (fun t=>P t*bcj n A t i j*p2 (40000-3000*(t+1))) m
end Go.Ab
namespace Go.Ab
open Go Go.Proofs
/-! ### What polynomials of a matrix are worth-/
theorem beD{p:List DyV}(h:p.all DyV.ok=true):∃q:List ExV,p=q.map ExV.dyv∧∀x∈q,x.ok=true:=by
 rw[List.all_eq_true]at h
 refine⟨p.map DyV.ex,?_,fun x hx=>?_⟩
 ·rw[List.map_map]
  conv=>lhs;rw[←List.map_id p]
  exact List.map_congr_left fun d hd=>(ajY (h d hd)).1
 ·obtain⟨d,hd,rfl⟩:=List.mem_map.1 hx
  exact(ajY (h d hd)).2
end Go.Ab
namespace Go.Ab
open Go Go.Proofs
/-! ### What rounded quotients are worth-/
theorem aFl(s:Bool)(a b:Nat)(hb:0<b):(s=false→rq s a b 3*b≤a)∧(s=true→a≤rq s a b 3*b)∧(s=false→a≤rq s a b 2*b)∧(s=true→rq s a b 2*b≤a):=by
 have h1:=Nat.div_add_mod a b
 have h2:=Nat.mod_lt a hb
 have h3:a/b*b=b*(a/b):=Nat.mul_comm _ _
 have h4:(a/b+1)*b=b*(a/b)+b:=by rw[Nat.add_mul,Nat.one_mul,Nat.mul_comm]
 unfold rq rup
 by_cases h:a % b=0
 ·simp only[if_pos h];refine⟨fun _=>?_,fun _=>?_,fun _=>?_,fun _=>?_⟩<;>omega
 ·simp only[if_neg h]
  cases s
  ·refine⟨fun _=>?_,(fun h=>by cases h),fun _=>?_,(fun h=>by cases h)⟩<;>simp<;>omega
  ·refine⟨fun h=>(by cases h),fun _=>?_,fun h=>(by cases h),fun _=>?_⟩<;>simp<;>omega
theorem aZA(s:Bool)(m:Nat):sv s m=sv s 1*(m:Int):=by cases s<;>simp[sv]
theorem afe{x y:ExV}{low mode:Int}{Kx Ky Kz:Nat}(hy0:y.m≠0)(hx: -(Kx:Int)≤x.e)(hy: -(Ky:Int)≤y.e)(hz: -(Kz:Int)≤low):
  ∃(a b:Nat) (f:Int),0<b∧0<f∧(x.over y low mode).val Kz*y.val Ky*p2 Kx=sv x.s 1*((rq (x.s != y.s) a b mode*b:Nat)*f)∧x.val Kx*p2 (Ky+Kz)=sv x.s 1*(a*f)∧((y.val Ky).natAbs:Int)*p2 ((low+Kz).toNat+Kx)=b*f:=by
 obtain⟨k,hk⟩:∃k,k=x.e-y.e-low:=⟨_,rfl⟩
 have hz':(x.over y low mode).val Kz=sv (x.s != y.s) (rq (x.s != y.s) (ovA x.m k) (ovA y.m (-k)) mode)*p2 (low+Kz).toNat:=by
  rw[hk]
  show dv Kz ((x.s != y.s)&&decide (ovQ (x.s != y.s) x.m x.e y.m y.e low mode≠0)) (ovQ (x.s != y.s) x.m x.e y.m y.e low mode) low=_
  rw[aqG];rfl
 have hyv:y.val Ky=sv y.s y.m*p2 (y.e+Ky).toNat:=rfl
 have hxv:x.val Kx=sv x.s x.m*p2 (x.e+Kx).toNat:=rfl
 have hb:0<ovA y.m (-k):=Nat.mul_pos (Nat.pos_of_ne_zero hy0) (Nat.pow_pos (by omega))
 generalize hq:rq (x.s != y.s) (ovA x.m k) (ovA y.m (-k)) mode=q at*
 obtain⟨g,hg1,hg2⟩:∃g:Nat,(low+Kz).toNat+(y.e+Ky).toNat+Kx=(-k).toNat+g∧(x.e+Kx).toNat+(Ky+Kz)=k.toNat+g:=by
  refine⟨min ((low+Kz).toNat+(y.e+Ky).toNat+Kx) ((x.e+Kx).toNat+(Ky+Kz)),?_,?_⟩<;>omega
 have ea:((ovA x.m k:Nat):Int)=x.m*p2 k.toNat:=by unfold ovA p2;rw[Int.natCast_mul,Int.natCast_pow];rfl
 have eb:((ovA y.m (-k):Nat):Int)=y.m*p2 (-k).toNat:=by unfold ovA p2;rw[Int.natCast_mul,Int.natCast_pow];rfl
 refine⟨ovA x.m k,ovA y.m (-k),p2 g,hb,aac g,?_,?_,?_⟩
 ·rw[hq,hz',hyv,Int.natCast_mul,eb]
  have e1:p2 (low+Kz).toNat*p2 (y.e+Ky).toNat*p2 Kx=p2 (-k).toNat*p2 g:=by rw[←yY,←yY,hg1,yY]
  have e2:sv (x.s != y.s) q*sv y.s y.m=sv x.s 1*((q:Int)*y.m):=by
   cases x.s<;>cases y.s<;>(simp[sv];try grind)
  calc sv (x.s != y.s) q*p2 (low+Kz).toNat*(sv y.s y.m*p2 (y.e+Ky).toNat)*p2 Kx=(sv (x.s != y.s) q*sv y.s y.m)*(p2 (low+Kz).toNat*p2 (y.e+Ky).toNat*p2 Kx):=by grind
   _=_:=by rw[e1,e2];grind
 ·rw[hxv,ea,aZA x.s x.m]
  have e1:p2 (x.e+Kx).toNat*p2 (Ky+Kz)=p2 k.toNat*p2 g:=by rw[←yY,hg2,yY]
  calc sv x.s 1*(x.m:Int)*p2 (x.e+Kx).toNat*p2 (Ky+Kz)=sv x.s 1*(x.m:Int)*(p2 (x.e+Kx).toNat*p2 (Ky+Kz)):=by rw[Int.mul_assoc]
   _=_:=by rw[e1];grind
 ·have e0:((y.val Ky).natAbs:Int)=y.m*p2 (y.e+Ky).toNat:=by
   have hp:=aac (y.e+Ky).toNat
   rw[hyv,Int.natAbs_mul,afa,Int.natCast_mul,show(((p2 (y.e+Ky).toNat).natAbs:Nat):Int)=p2 (y.e+Ky).toNat by omega]
  rw[e0,eb,yY]
  have e1:p2 (y.e+Ky).toNat*(p2 (low+Kz).toNat*p2 Kx)=p2 (-k).toNat*p2 g:=by rw[←yY,←yY,←yY,←hg1];exact congrArg p2 (by omega)
  calc (y.m:Int)*p2 (y.e+Ky).toNat*(p2 (low+Kz).toNat*p2 Kx)=(y.m:Int)*(p2 (y.e+Ky).toNat*(p2 (low+Kz).toNat*p2 Kx)):=by rw[Int.mul_assoc]
   _=_:=by rw[e1];grind
theorem aff{x y:ExV}{low:Int}{Kx Ky Kz:Nat}(hy0:y.m≠0)(hx: -(Kx:Int)≤x.e)(hy: -(Ky:Int)≤y.e)(hz: -(Kz:Int)≤low):
  (y.s=false→(x.over y low 3).val Kz*y.val Ky*p2 Kx≤x.val Kx*p2 (Ky+Kz)∧x.val Kx*p2 (Ky+Kz)≤(x.over y low 2).val Kz*y.val Ky*p2 Kx)∧
  (y.s=true→x.val Kx*p2 (Ky+Kz)≤(x.over y low 3).val Kz*y.val Ky*p2 Kx∧(x.over y low 2).val Kz*y.val Ky*p2 Kx≤x.val Kx*p2 (Ky+Kz)):=by
 obtain⟨a,b,f,hb,hf,e1,e2,e3⟩:=afe (mode:=3) hy0 hx hy hz
 obtain⟨a',b',f',hb',hf',e1',e2',e3'⟩:=afe (mode:=2) hy0 hx hy hz
 obtain⟨h1,h2, -, -⟩:=aFl (x.s != y.s) a b hb
 obtain⟨-, -,h3,h4⟩:=aFl (x.s != y.s) a' b' hb'
 rw[e1,e1']
 have m1:∀p q:Nat,p≤q→(p:Int)*f≤q*f:=fun p q h=>Int.mul_le_mul_of_nonneg_right (by omega) (by omega)
 have m2:∀p q:Nat,p≤q→(p:Int)*f'≤q*f':=fun p q h=>Int.mul_le_mul_of_nonneg_right (by omega) (by omega)
 generalize rq (x.s != y.s) a b 3*b=q at*
 generalize rq (x.s != y.s) a' b' 2*b'=q' at*
 cases hxs:x.s<;>cases hys:y.s<;>rw[hxs,hys]at h1 h2 h3 h4<;>rw[hxs]at e2 e2'<;>simp only[sv]at* <;>refine⟨fun h=>?_,fun h=>?_⟩<;>first|(cases h;done)|skip
 ·have:=m1 _ _ (h1 rfl);have:=m2 _ _ (h3 rfl)
  constructor
  ·rw[e2];simp;omega
  ·rw[e2'];simp;omega
 ·have:=m1 _ _ (h2 rfl);have:=m2 _ _ (h4 rfl)
  constructor
  ·rw[e2];simp;omega
  ·rw[e2'];simp;omega
 ·have:=m1 _ _ (h2 rfl);have:=m2 _ _ (h4 rfl)
  constructor
  ·rw[e2];simp;omega
  ·rw[e2'];simp;omega
 ·have:=m1 _ _ (h1 rfl);have:=m2 _ _ (h3 rfl)
  constructor
  ·rw[e2];simp;omega
  ·rw[e2'];simp;omega
end Go.Ab
namespace Go.Ab
theorem adX{a b c d x y m M:Int}(h1:a≤x)(h2:x≤b)(h3:c≤y)(h4:y≤d)(m1:m≤a*c)(m2:m≤a*d)(m3:m≤b*c)(m4:m≤b*d)(M1:a*c≤M)(M2:a*d≤M)(M3:b*c≤M)(M4:b*d≤M):m≤x*y∧x*y≤M:=by
 have key:∀e:Int,(a*e≤x*e∧x*e≤b*e)∨(b*e≤x*e∧x*e≤a*e):=fun e=>by
  rcases Int.le_total 0 e with h|h
  ·exact .inl ⟨Int.mul_le_mul_of_nonneg_right h1 h,Int.mul_le_mul_of_nonneg_right h2 h⟩
  ·exact .inr ⟨Int.mul_le_mul_of_nonpos_right h2 h,Int.mul_le_mul_of_nonpos_right h1 h⟩
 have kc:=key c
 have kd:=key d
 have ky:(x*c≤x*y∧x*y≤x*d)∨(x*d≤x*y∧x*y≤x*c):=by
  rcases Int.le_total 0 x with h|h
  ·exact .inl ⟨Int.mul_le_mul_of_nonneg_left h3 h,Int.mul_le_mul_of_nonneg_left h4 h⟩
  ·exact .inr ⟨Int.mul_le_mul_of_nonpos_left h h4,Int.mul_le_mul_of_nonpos_left h h3⟩
 omega
end Go.Ab
namespace Go.Ab
open Go Go.Proofs
/-! ### Rational points of intervals-/
theorem aam{K:Nat}:∀(l:List ExV) (m:ExV), -(K:Int)≤m.e→eK K l→(l.foldl zf m).val K≤m.val K∧(∀x∈l,(l.foldl zf m).val K≤x.val K)∧ -(K:Int)≤(l.foldl zf m).e
 | [],m,hm,_=>⟨Int.le_refl _,(fun x hx=>by cases hx),hm⟩
 |y::l,m,hm,hl=>by
  have hy:=hl y (List.mem_cons_self ..)
  have hl':eK K l:=fun x hx=>hl x (List.mem_cons_of_mem _ hx)
  have h1:(zf m y).val K≤m.val K∧(zf m y).val K≤y.val K∧ -(K:Int)≤(zf m y).e:=by
   rcases Int.lt_or_le (y.val K) (m.val K)with g|g
   ·have e:zf m y=y:=by
     unfold zf
     rw[Jx hy hm,if_pos (by unfold zt;rw[if_pos g];decide)]
    rw[e];exact⟨Int.le_of_lt g,Int.le_refl _,hy⟩
   ·have e:zf m y=m:=by
     unfold zf
     rw[Jx hy hm,if_neg (by unfold zt;rw[if_neg (by omega)];split<;>omega)]
    rw[e];exact⟨Int.le_refl _,g,hm⟩
  obtain⟨g1,g2,g3⟩:=aam l (zf m y) h1.2.2 hl'
  refine⟨Int.le_trans g1 h1.1,fun x hx=>?_,g3⟩
  rcases List.mem_cons.1 hx with rfl|hx
  ·exact Int.le_trans g1 h1.2.1
  ·exact g2 x hx
theorem afj{K:Nat}:∀(l:List ExV) (m:ExV), -(K:Int)≤m.e→eK K l→m.val K≤(l.foldl zV m).val K∧(∀x∈l,x.val K≤(l.foldl zV m).val K)∧ -(K:Int)≤(l.foldl zV m).e
 | [],m,hm,_=>⟨Int.le_refl _,(fun x hx=>by cases hx),hm⟩
 |y::l,m,hm,hl=>by
  have hy:=hl y (List.mem_cons_self ..)
  have hl':eK K l:=fun x hx=>hl x (List.mem_cons_of_mem _ hx)
  have h1:m.val K≤(zV m y).val K∧y.val K≤(zV m y).val K∧ -(K:Int)≤(zV m y).e:=by
   rcases Int.lt_or_le (m.val K) (y.val K)with g|g
   ·have e:zV m y=y:=by
     unfold zV
     rw[Jx hy hm,if_pos (by unfold zt;rw[if_neg (by omega),if_pos g];decide)]
    rw[e];exact⟨Int.le_of_lt g,Int.le_refl _,hy⟩
   ·have e:zV m y=m:=by
     unfold zV
     rw[Jx hy hm,if_neg (by unfold zt;split<;>(try split)<;>omega)]
    rw[e];exact⟨Int.le_refl _,g,hm⟩
  obtain⟨g1,g2,g3⟩:=afj l (zV m y) h1.2.2 hl'
  refine⟨Int.le_trans h1.1 g1,fun x hx=>?_,g3⟩
  rcases List.mem_cons.1 hx with rfl|hx
  ·exact Int.le_trans h1.2.1 g1
  ·exact g2 x hx
theorem jL{K:Nat}{l:List ExV}(h:eK K l):(∀x∈l,(qL l).val K≤x.val K)∧ -(K:Int)≤(qL l).e:=by
 cases l with
 |nil=>exact⟨(fun x hx=>by cases hx),by show-(K:Int)≤0;omega⟩
 |cons y l=>
  obtain⟨g1,g2,g3⟩:=aam (K:=K) l y (h y (List.mem_cons_self ..)) fun x hx=>h x (List.mem_cons_of_mem _ hx)
  refine⟨fun x hx=>?_,g3⟩
  rcases List.mem_cons.1 hx with rfl|hx
  ·exact g1
  ·exact g2 x hx
theorem yt{K:Nat}{l:List ExV}(h:eK K l):(∀x∈l,x.val K≤(q8 l).val K)∧ -(K:Int)≤(q8 l).e:=by
 cases l with
 |nil=>exact⟨(fun x hx=>by cases hx),by show-(K:Int)≤0;omega⟩
 |cons y l=>
  obtain⟨g1,g2,g3⟩:=afj (K:=K) l y (h y (List.mem_cons_self ..)) fun x hx=>h x (List.mem_cons_of_mem _ hx)
  refine⟨fun x hx=>?_,g3⟩
  rcases List.mem_cons.1 hx with rfl|hx
  ·exact g1
  ·exact g2 x hx
def SpV.eK(K:Nat)(s:SpV):Prop:= -(K:Int)≤s.lo.e∧ -(K:Int)≤s.hi.e
def inS(K:Nat)(s:SpV)(N D:Int):Prop:=s.lo.val K*D≤N∧N≤s.hi.val K*D
theorem aPI{K:Nat}{x:ExV}{D:Int}:inS K ⟨x,x⟩ (x.val K*D) D:=⟨Int.le_refl _,Int.le_refl _⟩
theorem times_eK{K K':Nat}{s t:SpV}(hs:s.eK K)(ht:t.eK K'):eK (K+K') (zh ExV.times s t):=fun x hx=>by
 obtain⟨a,b⟩:=hs
 obtain⟨c,d⟩:=ht
 simp only[zh,List.mem_cons,List.not_mem_nil,or_false]at hx
 rcases hx with rfl|rfl|rfl|rfl
 ·show _≤s.lo.e+t.lo.e;omega
 ·show _≤s.lo.e+t.hi.e;omega
 ·show _≤s.hi.e+t.lo.e;omega
 ·show _≤s.hi.e+t.hi.e;omega
theorem SpV.times_eK{K K':Nat}{s t:SpV}(hs:s.eK K)(ht:t.eK K'):(s.times t).eK (K+K'):=⟨(jL (Go.Ab.times_eK hs ht)).2,(yt (Go.Ab.times_eK hs ht)).2⟩
theorem aqd{K K':Nat}{s t:SpV}{N D N' D':Int}(hs:s.eK K)(ht:t.eK K')(hD:0<D)(hD':0<D')(h:inS K s N D)(h':inS K' t N' D'):inS (K+K') (s.times t) (N*N') (D*D'):=by
 have he:=Go.Ab.times_eK hs ht
 obtain⟨l1, -⟩:=jL he
 obtain⟨m1, -⟩:=yt he
 have hDD:0≤D*D':=Int.le_of_lt (Int.mul_pos hD hD')
 obtain⟨a,b⟩:=hs
 obtain⟨c,d⟩:=ht
 have f:∀x y:ExV, -(K:Int)≤x.e→ -(K':Int)≤y.e→(x.times y).val (K+K')*(D*D')=(x.val K*D)*(y.val K'*D'):=fun x y hx hy=>by
  rw[ZD hx hy];grind
 have L:∀x∈zh ExV.times s t,(qL (zh ExV.times s t)).val (K+K')*(D*D')≤x.val (K+K')*(D*D'):=fun x hx=>Int.mul_le_mul_of_nonneg_right (l1 x hx) hDD
 have M:∀x∈zh ExV.times s t,x.val (K+K')*(D*D')≤(q8 (zh ExV.times s t)).val (K+K')*(D*D'):=fun x hx=>Int.mul_le_mul_of_nonneg_right (m1 x hx) hDD
 have i1:s.lo.times t.lo∈zh ExV.times s t:=by simp[zh]
 have i2:s.lo.times t.hi∈zh ExV.times s t:=by simp[zh]
 have i3:s.hi.times t.lo∈zh ExV.times s t:=by simp[zh]
 have i4:s.hi.times t.hi∈zh ExV.times s t:=by simp[zh]
 have L1:=L _ i1
 have L2:=L _ i2
 have L3:=L _ i3
 have L4:=L _ i4
 have M1:=M _ i1
 have M2:=M _ i2
 have M3:=M _ i3
 have M4:=M _ i4
 rw[f _ _ a c]at L1 M1
 rw[f _ _ a d]at L2 M2
 rw[f _ _ b c]at L3 M3
 rw[f _ _ b d]at L4 M4
 exact adX h.1 h.2 h'.1 h'.2 L1 L2 L3 L4 M1 M2 M3 M4
theorem SpV.plus_eK{K:Nat}{s t:SpV}(hs:s.eK K)(ht:t.eK K):(s.plus t).eK K:=⟨K8 hs.1 ht.1,K8 hs.2 ht.2⟩
theorem aCy{K:Nat}{s t:SpV}{N N' D:Int}(hs:s.eK K)(ht:t.eK K)(h:inS K s N D)(h':inS K t N' D):inS K (s.plus t) (N+N') D:=by
 obtain⟨a,b⟩:=h
 obtain⟨c,d⟩:=h'
 constructor
 ·show(s.lo.plus t.lo).val K*D≤_
  rw[jZ hs.1 ht.1,Int.add_mul];omega
 ·show _≤(s.hi.plus t.hi).val K*D
  rw[jZ hs.2 ht.2,Int.add_mul];omega
theorem aeb{K:Nat}{s:SpV}{N D:Int}(hs:s.eK K):inS K s.can N D↔inS K s N D:=by
 unfold inS
 rw[show s.can.lo=s.lo.can from rfl,show s.can.hi=s.hi.can from rfl,Xl hs.1,Xl hs.2]
theorem SpV.can_eK{K:Nat}{s:SpV}(hs:s.eK K):s.can.eK K:=⟨aTT hs.1 (by omega),aTT hs.2 (by omega)⟩
theorem aPJ{K:Nat}{s:SpV}{N D:Int}(hD:0<D)(h:inS K s N D):s.lo.val K≤s.hi.val K:=Int.le_of_mul_le_mul_right (Int.le_trans h.1 h.2) hD
theorem Yw{K j:Nat}{x y:ExV}(hx: -(K:Int)≤x.e)(hy: -(K:Int)≤y.e):x.val K≤y.val K↔x.val (K+j)≤y.val (K+j):=by
 rw[akW hx,akW hy]
 have hp:(0:Int)<2^j:=aac j
 exact⟨fun h=>Int.mul_le_mul_of_nonneg_right h (Int.le_of_lt hp),fun h=>Int.le_of_mul_le_mul_right h hp⟩
theorem ZN{K:Nat}{s:SpV}(hK:3000≤K)(hs:s.eK K)(h:s.lo.val K≤s.hi.val K):s.tel.ok=true:=by
 unfold SpV.tel
 split
 ·rename_i hf
  have hf:(s.lo.fit&&s.hi.fit)=true:=hf
  rw[Bool.and_eq_true]at hf
  have o1:=ary hf.1
  have o2:=ary hf.2
  show(s.lo.can.ok&&(s.hi.can.ok&&decide (s.lo.can.val 3000≤s.hi.can.val 3000)))=true
  rw[o1,o2,Bool.true_and,Bool.true_and]
  refine decide_eq_true ((Yw (j:=K-3000) (zG o1).1.1 (zG o2).1.1).2 ?_)
  rw[show 3000+(K-3000)=K by omega,Xl hs.1,Xl hs.2]
  exact h
 ·decide+kernel
theorem Qg{s:SpV}(h:s.ok=true):s.eK 3000∧s.lo.val 3000≤s.hi.val 3000∧s.lo.ok=true∧s.hi.ok=true:=by
 have h:(s.lo.ok&&(s.hi.ok&&decide (s.lo.val 3000≤s.hi.val 3000)))=true:=h
 simp only[Bool.and_eq_true,decide_eq_true_eq]at h
 exact⟨⟨(zG h.1).1.1,(zG h.2.1).1.1⟩,h.2.2,h.1,h.2.1⟩
theorem ak0{K K':Nat}{s t:SpV}(hs:s.eK K)(ht:t.eK K'):(s.times t).lo.val (K+K')≤(s.times t).hi.val (K+K'):=by
 have he:=Go.Ab.times_eK hs ht
 have i1:s.lo.times t.lo∈zh ExV.times s t:=by simp[zh]
 exact Int.le_trans ((jL he).1 _ i1) ((yt he).1 _ i1)
theorem akv(s t:SpV)(hs:s.ok=true)(ht:t.ok=true):Con Tryz.prog 31 false [.ag [.v (.bool (s).lo.s),.sl (lim (s).lo.m).length (qc (lim (s).lo.m)),.v (.int .i64 (s).lo.e),.v (.bool (s).hi.s),.sl (lim (s).hi.m).length (qc (lim (s).hi.m)),.v (.int .i64 (s).hi.e)],.ag [.v (.bool (t).lo.s),.sl (lim (t).lo.m).length (qc (lim (t).lo.m)),.v (.int .i64 (t).lo.e),.v (.bool (t).hi.s),.sl (lim (t).hi.m).length (qc (lim (t).hi.m)),.v (.int .i64 (t).hi.e)]] [] (isA (.tu [.ag [.v (.bool ((s.times t).tel).lo.s),.sl (lim ((s.times t).tel).lo.m).length (qc (lim ((s.times t).tel).lo.m)),.v (.int .i64 ((s.times t).tel).lo.e),.v (.bool ((s.times t).tel).hi.s),.sl (lim ((s.times t).tel).hi.m).length (qc (lim ((s.times t).tel).hi.m)),.v (.int .i64 ((s.times t).tel).hi.e)],.v (.bool (s.times t).fit)])):=by
 refine Con.frzA ?_
 have ca:=yA s t hs ht
 have bs:=ym hs
 have bt:=ym ht
 have bp:(s.times t).bd (-6000) 9200:=(SpV.times_bd bs bt).mono (by omega) (by omega)
 have ci:=Jk (s.times t) ⟨bp.1.mono (by omega) (by omega),bp.2.mono (by omega) (by omega)⟩
 have cp:=Jj s t ⟨bs.1.mono (by omega) (by omega),bs.2.mono (by omega) (by omega)⟩ ⟨bt.1.mono (by omega) (by omega),bt.2.mono (by omega) (by omega)⟩
 generalize s.times t=y at*
 refine Con.of_w (rs:=[.cell 4 51,.tmp 5]) Tryz.func31 rfl Tryz.ntmps31 rfl ?_
 simp(disch:=omega)only[go_sem]
 refine qk (ca) ?_
 simp(disch:=omega)only[go_sem]
 refine qp rfl [⟨0,[],[]⟩,⟨2,[0],[]⟩,⟨1,[2],[]⟩,⟨3,[],[]⟩,⟨4,[],[]⟩,⟨5,[],[]⟩,⟨6,[],[]⟩,⟨7,[],[]⟩,⟨8,[],[]⟩,⟨9,[],[]⟩] (by kernel_rfl) ?_
 simp(disch:=omega)only[go_sem]
 refine qa (zP s) ?_
 simp(disch:=omega)only[go_sem]
 refine qa (zP t) ?_
 simp(disch:=omega)only[go_sem]
 refine qa (cp) ?_
 simp(disch:=omega)only[go_sem]
 refine qa (ci) ?_
 simp(disch:=omega)only[go_sem]
 exact ql
end Go.Ab
namespace Go.Ab
open Go Go.Proofs
/-! ### Linear equations-/
def ZA(n:Nat)(D b:List ExV)(i k:Nat):ExV:=(List.range k).foldl (fun s j=>s.plus ((D.getD (i*n+j) ex0).times (b.getD j ex0))) ex0
theorem aaz{n:Nat}{D b:List ExV}{i k:Nat}:ZA n D b i (k+1)=(ZA n D b i k).plus ((D.getD (i*n+k) ex0).times (b.getD k ex0)):=by
 unfold ZA;rw[List.range_succ,List.foldl_append,List.foldl_cons,List.foldl_nil]
def Zh(n:Nat)(D b:List ExV)(y:ExV)(low:Int)(i:Nat):SpV:=SpV.over ⟨ZA n D b i n,ZA n D b i n⟩ ⟨y,y⟩ low
def QI(n:Nat)(D b:List ExV)(y:ExV)(low:Int)(k:Nat):List SpV:=(List.range k).map (Zh n D b y low)
theorem YB{n k:Nat}{D b:List ExV}{y:ExV}{low:Int}:(QI n D b y low k).length=k:=by simp[QI]
theorem apa{n k:Nat}{D b:List ExV}{y:ExV}{low:Int}:QI n D b y low (k+1)=QI n D b y low k++[Zh n D b y low k]:=by simp[QI,List.range_succ]
theorem aMn{n:Nat}{D b:List ExV}{i k:Nat}(hi:i<n)(hk:k≤n)(hn:n≤4)(hl:D.length=n*n)(hb:gbd (-40000) 40100 D)(hbo:∀x∈b,x.ok=true):(ZA n D b i k).bd (-43000) (44700+k):=
 Qt _ (by omega) k fun t ht=>(ExV.times_bd (za hb (by rw[hl];exact zH hi (by omega))) (Ql (aZZ hbo t))).mono (by omega) (by omega)
theorem K1{l:List SpV}{k:Nat}(h:l.length=k):cut (qm SpV.cs l) 0 (k*6)=qm SpV.cs l:=by subst h;exact ao8
set_option maxRecDepth 100000 in
set_option maxHeartbeats 1000000 in
theorem aks(n:Nat)(L b:List ExV)(low:Int)(h:matV n L)(hbl:b.length=n)(hbo:∀x∈b,x.ok=true)(h0:(zD n L).m≠0)(hlo: -200≤low∧low≤200):
  Con Tryz.prog 41 false [.ag [.v (.int .i64 (n)),.sl (L).length (qm ExV.cs (L))],.sl n (qm ExV.cs b),.v (.int .i64 low)] []
  (isA (if(QI n (yj n L) b (zD n L) low n).all SpV.fit=true then .tu [.sl n (qm SpV.cs ((QI n (yj n L) b (zD n L) low n).map SpV.can)),.v (.bool true)]else .tu [.sl 0 [],.v (.bool false)])):=by
 refine Con.frzA ?_
 have hb:gbd (-10000) 10000 L:=j8 h.bd (by omega) (by omega)
 have hq:=Qf h.n4
 have h4:=h.n4
 have h1:=h.n1
 have ca:=jR (b.map ExV.dyv) (by rw[List.length_map];omega) (fun d hd=>by
  obtain⟨x,hx,rfl⟩:=List.mem_map.1 hd
  have:=(zG (hbo x hx)).2.2.1
  show(lim x.m).length≤_
  omega)
 rw[Zr,List.length_map,show(b.map ExV.dyv).all DyV.ok=true by
  rw[List.all_map];exact List.all_eq_true.2 hbo,hbl]at ca
 have cf:=Q0 low
 rw[decide_eq_true hlo.1,decide_eq_true hlo.2]at cf
 have c1:=aeG n L h.n4 h.len hb
 have c2:=aDC n L h.n4 h.len hb
 have by':=(Jg n h4 h.len hb).mono (show(-40000:Int)≤_ by omega) (show _≤(40100:Int) by omega)
 have bD:gbd (-40000) 40100 (yj n L):=j8 (aLx h4 h.len hb) (by omega) (by omega)
 have lD:(yj n L).length=n*n:=Q6
 have cz:=yR (zD n L).s (zD n L).m (zD n L).e
 rw[decide_eq_false h0]at cz
 generalize zD n L=y at*
 generalize yj n L=D at*
 refine Con.of_aw Tryz.func41 rfl Tryz.ntmps41 (by simp) (by simp) (by simp) (W.sound ?_)
 show @W Tryz.prog 88 ⟨_⟩ ⟨fun x σ=>@qW _ _ _ ⟨_⟩ _ ⟨_⟩ x σ⟩ _ _
 simp(disch:=omega)only[go_sem]
 refine qk (Yn n L h) ?_
 simp(disch:=omega)only[go_sem]
 refine qk (ca) ?_
 simp(disch:=omega)only[go_sem]
 refine qk (cf) ?_
 simp(disch:=omega)only[go_sem]
 refine qa (j9 n L (by have:=h.l16;omega)) ?_
 simp(disch:=omega)only[go_sem]
 refine qa (c1) ?_
 simp(disch:=omega)only[go_sem]
 refine qk (cz) ?_
 simp(disch:=omega)only[go_sem]
 refine qa (c2) ?_
 simp(disch:=omega)only[go_sem]
 refine qh (fun i:Nat=>[(1,.sl n (qm ExV.cs b)),(2,.v (.int .i64 low)),(6,.v (.slice none 0 0)),(7,.v (.bool false)),(9,.pt 9 0),(10,.pt 10 0),(11,.rf 3 0 i),(47,.v (.int .i64 n)),(48,.v (.int .i64 i))])
  (fun i=>[(3,.own 6 (qm SpV.cs ((QI n D b y low i).map SpV.can))),(9,.own 0 [.v (.bool y.s),.sl (lim y.m).length (qc (lim y.m)),.v (.int .i64 y.e)]),(10,.own 0 [.v (.int .i64 n),.sl D.length (qm ExV.cs D)])]) (fun i=>i≤n∧∀x∈QI n D b y low i,x.fit=true) (fun i=>n-i) 0 ⟨by omega,by simp[QI]⟩
  ((Le.ghost 11 3 6 (by simp(disch:=omega)only[go_sem]) (by simp(disch:=omega)only[go_sem])).trans (Le.lst [(9,110000000),(10,120000000)] _ _ rfl (by simp(disch:=omega)only[go_sem]) (by simp(disch:=omega)only[go_sem];try rfl))) ?_
 rintro i ⟨hi,hfit⟩
 simp(disch:=omega)only[go_sem]
 refine qe (fun c1=>?_) (fun c1=>?_)
 ·simp(disch:=omega)only[go_sem,c1]
  refine qh (fun k:Nat=>[(1,.sl n (qm ExV.cs b)),(2,.v (.int .i64 low)),(6,.v (.slice none 0 0)),(7,.v (.bool false)),(9,.pt 9 0),(10,.pt 10 0),(11,.rf 3 0 i),(12,.v (.int .i64 i)),(13,.pt 13 0),(47,.v (.int .i64 n)),(48,.v (.int .i64 i)),(51,.sl n (qm ExV.cs b)),(52,.v (.int .i64 n)),(53,.v (.int .i64 k))])
   (fun k=>[(3,.own 6 (qm SpV.cs ((QI n D b y low i).map SpV.can))),(9,.own 0 [.v (.bool y.s),.sl (lim y.m).length (qc (lim y.m)),.v (.int .i64 y.e)]),(10,.own 0 [.v (.int .i64 n),.sl D.length (qm ExV.cs D)]),(13,.own 0 [.v (.bool (ZA n D b i k).s),.sl (lim (ZA n D b i k).m).length (qc (lim (ZA n D b i k).m)),.v (.int .i64 (ZA n D b i k).e)])]) (fun k=>k≤n) (fun k=>n-k) 0 (by omega)
   ((Le.nilC 150000000 1 (zo:=0) (cs:=[.v (.bool false),.v (.slice none 0 0),.v (.int .i64 0)]) (by simp(disch:=omega)only[go_sem]) rfl).trans (Le.lst [(13,150000000)] _ _ rfl (by simp(disch:=omega)only[go_sem]) (by simp(disch:=omega)only[go_sem,List.set_cons_succ,List.set_cons_zero,show ZA n D b i 0=ex0 from rfl,ex0,qn]))) ?_
  intro k hk
  have hi2:i<n:=by omega
  have hD:=aMn (k:=k) hi2 hk h4 lD bD hbo
  have hs:=aaz (n:=n) (D:=D) (b:=b) (i:=i) (k:=k)
  simp(disch:=omega)only[go_sem]
  refine qe (fun c2=>?_) (fun c2=>?_)
  ·have hk2:k<n:=by omega
   have hx:=zH hi2 hk2
   have ca1:=Ym n D i k (by omega) (by omega) (by omega) (by omega) (by omega)
   have b1:=za bD (show i*n+k<D.length by omega)
   have b2:=Ql (aZZ hbo k)
   have hcut:=zC (l:=b) (i:=k) (by omega)
   generalize hS1:ZA n D b i (k+1)=S1 at*
   generalize ZA n D b i k=S0 at*
   generalize D.getD (i*n+k) ex0=x at*
   generalize b.getD k ex0=z at*
   have ct:=yP x z (b1.mono (by omega) (by omega)) (b2.mono (by omega) (by omega))
   have cp:=jg S0 (x.times z) (hD.mono (by omega) (by omega)) ((ExV.times_bd b1 b2).mono (by omega) (by omega))
   rw[←hs]at cp
   simp(disch:=omega)only[go_sem,c2,hcut]
   refine⟨by omega,by omega,?_⟩
   refine qp rfl [⟨0,[],[]⟩,⟨1,[0],[]⟩,⟨2,[0,1],[]⟩,⟨3,[0,1],[]⟩,⟨5,[0,1],[]⟩,⟨4,[0,5],[]⟩,⟨6,[0],[]⟩,⟨7,[0],[]⟩,⟨8,[],[]⟩,⟨9,[],[]⟩] (by kernel_rfl) ?_
   simp(disch:=omega)only[go_sem]
   refine qa (ca1) ?_
   simp(disch:=omega)only[go_sem]
   refine qa (zr z.s z.m z.e) ?_
   simp(disch:=omega)only[go_sem]
   refine qa (ct) ?_
   simp(disch:=omega)only[go_sem]
   refine qa (cp) ?_
   simp(disch:=omega)only[go_sem]
   exact qb (k+1) [] (by show k+1≤n;omega) (by show n-(k+1)<n-k;omega) rfl (by simp(disch:=omega)only[go_sem];try omega) (by simp(disch:=omega)only[go_sem,hS1])
  ·obtain rfl:k=n:=by omega
   have co:=Yb ⟨ZA k D b i k,ZA k D b i k⟩ ⟨y,y⟩ low h0 h0 ⟨hD.mono (by omega) (by omega),hD.mono (by omega) (by omega)⟩ ⟨by'.mono (by omega) (by omega),by'.mono (by omega) (by omega)⟩ (by omega)
   change Con _ _ _ _ _ (isA (.ag [.v (.bool (Zh k D b y low i).lo.s),.sl (lim (Zh k D b y low i).lo.m).length (qc (lim (Zh k D b y low i).lo.m)),.v (.int .i64 (Zh k D b y low i).lo.e),.v (.bool (Zh k D b y low i).hi.s),.sl (lim (Zh k D b y low i).hi.m).length (qc (lim (Zh k D b y low i).hi.m)),.v (.int .i64 (Zh k D b y low i).hi.e)]))at co
   have bo:(Zh k D b y low i).bd (-200) 90000:=by
    have:=SpV.over_bd (s:=⟨ZA k D b i k,ZA k D b i k⟩) (t:=⟨y,y⟩) (low:=low) (H:=90000) ⟨hD,hD⟩ ⟨by'.2.1,by'.2.1⟩ (by omega) (by omega)
    exact⟨this.1.mono (by omega) (by omega),this.2.mono (by omega) (by omega)⟩
   have cd:=Jl (Zh k D b y low i) ⟨bo.1.mono (by omega) (by omega),bo.2.mono (by omega) (by omega)⟩
   have hsl:=apa (n:=k) (D:=D) (b:=b) (y:=y) (low:=low) (k:=i)
   have hsll:((QI k D b y low i).map SpV.can).length=i:=by rw[List.length_map,YB]
   have hcut:=K1 hsll
   have hmem:Zh k D b y low i∈QI k D b y low k:=List.mem_map.2 ⟨i,List.mem_range.2 hi2,rfl⟩
   have hmap:(QI k D b y low (i+1)).map SpV.can=(QI k D b y low i).map SpV.can++[(Zh k D b y low i).can]:=by rw[hsl,List.map_append];rfl
   generalize Zh k D b y low i=x at*
   simp(disch:=omega)only[go_sem,c2]
   refine qa (co) ?_
   simp(disch:=omega)only[go_sem]
   cases hft:x.fit
   ·have hall:(QI k D b y low k).all SpV.fit=false:=by rw[List.all_eq_false];exact⟨x,hmem,by rw[hft];simp⟩
    rw[hft,if_neg (by simp)]at cd
    rw[hall,if_neg (by simp)]
    refine qa (cd) ?_
    simp(disch:=omega)only[go_sem]
    exact ql
   ·rw[hft,if_pos rfl]at cd
    refine qa (cd) ?_
    simp(disch:=omega)only[go_sem]
    simp(disch:=omega)only[go_sem,hcut,yF]
    refine⟨⟨by rw[hsll];exact Nat.le_refl _,by omega⟩,qb (i+1) [(3,870000000)] ⟨by show i+1≤k;omega,fun z hz=>?_⟩ (by show k-(i+1)<k-i;omega) rfl (by simp(disch:=omega)only[go_sem];try omega) (by simp(disch:=omega)only[go_sem,hmap])⟩
    rw[hsl]at hz
    rcases List.mem_append.1 hz with g|g
    ·exact hfit z g
    ·rw[List.mem_singleton.1 g];exact hft
 ·obtain rfl:i=n:=by omega
  simp(disch:=omega)only[go_sem,c1]
  have hall:(QI i D b y low i).all SpV.fit=true:=List.all_eq_true.2 hfit
  have hsll:((QI i D b y low i).map SpV.can).length=i:=by rw[List.length_map,YB]
  rw[hall,if_pos rfl]
  generalize (QI i D b y low i).map SpV.can=F at*
  refine qg [(0,3)] [.own 6 (qm SpV.cs F)] [] [.rf 0 0 i,.v (.bool true)] rfl (by simp(disch:=omega)only[go_sem]) (by simp(disch:=omega)only[go_sem]) (by simp) (by simp) ?_
  show qE _ 6 _=_
  simp(disch:=omega)only[go_sem,ZO,qX,K1 hsll]
theorem akt(n:Nat)(L b:List ExV)(low:Int)(h:matV n L)(hbl:b.length=n)(hbo:∀x∈b,x.ok=true)(h0:(zD n L).m=0)(hlo: -200≤low∧low≤200):
  Con Tryz.prog 41 false [.ag [.v (.int .i64 (n)),.sl (L).length (qm ExV.cs (L))],.sl n (qm ExV.cs b),.v (.int .i64 low)] [] (isA (.tu [.sl 0 [],.v (.bool false)])):=by
 refine Con.frzA ?_
 have hb:gbd (-10000) 10000 L:=j8 h.bd (by omega) (by omega)
 have h4:=h.n4
 have ca:=jR (b.map ExV.dyv) (by rw[List.length_map];omega) (fun d hd=>by
  obtain⟨x,hx,rfl⟩:=List.mem_map.1 hd
  have:=(zG (hbo x hx)).2.2.1
  show(lim x.m).length≤_
  omega)
 rw[Zr,List.length_map,show(b.map ExV.dyv).all DyV.ok=true by
  rw[List.all_map];exact List.all_eq_true.2 hbo,hbl]at ca
 have cf:=Q0 low
 rw[decide_eq_true hlo.1,decide_eq_true hlo.2]at cf
 have c1:=aeG n L h.n4 h.len hb
 have cz:=yR (zD n L).s (zD n L).m (zD n L).e
 rw[decide_eq_true h0]at cz
 generalize zD n L=y at*
 refine Con.of_w (rs:=[.tmp 6,.tmp 7]) Tryz.func41 rfl Tryz.ntmps41 rfl ?_
 simp(disch:=omega)only[go_sem]
 refine qk (Yn n L h) ?_
 simp(disch:=omega)only[go_sem]
 refine qk (ca) ?_
 simp(disch:=omega)only[go_sem]
 refine qk (cf) ?_
 simp(disch:=omega)only[go_sem]
 refine qa (j9 n L (by have:=h.l16;omega)) ?_
 simp(disch:=omega)only[go_sem]
 refine qa (c1) ?_
 simp(disch:=omega)only[go_sem]
 refine qk (cz) ?_
 simp(disch:=omega)only[go_sem]
 exact ql
theorem aaU(k:Int)(M p:List DyV)(low:Int)(h1:M.length≤16)(h2:∀d∈M,d.xs.length≤200)(h3:p.length≤101)(h4:∀d∈p,d.xs.length≤200)(h:(ad6 k M&&(decide ((p.length:Int)=k)&&(p.all DyV.ok&&(decide (-200≤low)&&decide (low≤200)))))=false):
  Con Tryz.prog 41 false [.ag [.v (.int .i64 k),.sl M.length (qm DyV.cs M)],.sl p.length (qm DyV.cs p),.v (.int .i64 low)] [] (isA (.tu [.sl 0 [],.v (.bool false)])):=by
 refine Con.frzA ?_
 have c:=aku k M h1 h2
 have ca:=jR p (by omega) (fun d hd=>by have:=h4 d hd;omega)
 have cf:=Q0 low
 refine Con.of_w (rs:=[.tmp 6,.tmp 7]) Tryz.func41 rfl Tryz.ntmps41 rfl ?_
 simp(disch:=omega)only[go_sem]
 cases hb:ad6 k M
 ·rw[hb]at c
  refine qk (c) ?_
  simp(disch:=omega)only[go_sem]
  exact ql
 rw[hb,Bool.true_and]at h
 rw[hb]at c
 by_cases hk:(p.length:Int)=k
 rotate_left
 ·refine qk (c) ?_
  simp(disch:=omega)only[go_sem]
  simp(disch:=omega)only[go_sem,decide_eq_false hk]
  exact ql
 rw[decide_eq_true hk,Bool.true_and]at h
 cases ha:p.all DyV.ok
 ·rw[ha]at ca
  refine qk (c) ?_
  simp(disch:=omega)only[go_sem]
  simp(disch:=omega)only[go_sem,decide_eq_true hk]
  refine qk (ca) ?_
  simp(disch:=omega)only[go_sem]
  exact ql
 rw[ha,Bool.true_and]at h
 rw[ha]at ca
 rw[h]at cf
 refine qk (c) ?_
 simp(disch:=omega)only[go_sem]
 simp(disch:=omega)only[go_sem,decide_eq_true hk]
 refine qk (ca) ?_
 simp(disch:=omega)only[go_sem]
 refine qk (cf) ?_
 simp(disch:=omega)only[go_sem]
 exact ql
end Go.Ab
namespace Go.Ab
open Go Go.Proofs
section
variable (l:List UInt8)(hl:l.length≤9223372036854775807)(i h:Int)(hi:0≤i∧i≤l.length)
include hl hi
end
end Go.Ab
namespace Go.Ab
open Go Go.Proofs
end Go.Ab
namespace Go.Ab
open Go Go.Proofs
section
variable (l:List UInt8)(hl:l.length≤9223372036854775807)(i h:Int)(hi:0≤i∧i≤l.length)
include hl hi
theorem akd:Con Tryz.prog 102 false [.pt 10000000 0] [.own 0 [.sl l.length (qj l),.v (.int .i64 i),.v (.int .i64 h)]] (J8 l fun r=>∃k:Int,(-201≤k∧k≤201)∧r=.v (.int .i64 k)):=by
 refine Con.of_aw Tryz.func102 rfl Tryz.ntmps102 (by simp) (by simp) (by simp) (W.sound ?_)
 show @W Tryz.prog 6 ⟨_⟩ ⟨fun x σ=>@qW _ _ _ ⟨_⟩ _ ⟨_⟩ x σ⟩ _ _
 simp(disch:=omega)only[go_sem]
 refine jy (zq l hl i h hi [0, -10, -20,5, -200,200, -201,201, -3, -60] (by simp) (by simp)) ?_
 rintro r i1 h1 hi1 ⟨y,hy,rfl⟩
 have hy_b: -201≤y∧y≤201:=by
  simp only[List.mem_cons,List.not_mem_nil,or_false]at hy
  omega
 clear hy
 simp(disch:=omega)only[go_sem]
 refine qR (i1) (h1) ⟨y,by omega,rfl⟩
end
end Go.Ab
namespace Go.Ab
open Go Go.Proofs
def aK3(r:AV):Prop:=∃(n:Int) (l:List DyV),n≤5∧l.length≤16∧(∀d∈l,d.xs.length≤200)∧r=.ag [.v (.int .i64 n),.sl l.length (qm DyV.cs l)]
theorem Zx{n:Int}{L:List DyV}{o k:Nat}(h0:n≤5)(h1:L.length=o+k)(h2:L.length≤16)(h3:∀d∈L,d.xs.length≤200):aK3 (qE (rhp [.own 3 (qm DyV.cs L)] []) 6 (.ag [.v (.int .i64 n),.rf 0 (o*3) k])):=by
 refine⟨n,(L.drop o).take k,h0,?_,fun d hd=>h3 d (List.mem_of_mem_drop (List.mem_of_mem_take hd)),?_⟩
 ·rw[List.length_take,List.length_drop];omega
 ·have e:((L.drop o).take k).length=k:=by rw[List.length_take,List.length_drop];omega
  rw[e]
  show AV.ag [_,qE _ 5 (.rf 0 (o*3) k)]=_
  simp only[adN,qX]
  rw[adP Q7,afx]
  rfl
def aUa(n:Nat)(r:AV)(hs:List Ob):Prop:=∃(k:Int) (M:List DyV) (o m:Nat),k≤5∧M.length=o+m∧o≤1∧M.length=n*n∧(∀d∈M,d.xs.length≤200)∧r=.ag [.v (.int .i64 k),.rf 0 (o*3) m]∧hs=[.own 3 (qm DyV.cs M)]
section
variable (l:List UInt8)(hl:l.length≤9223372036854775807)(i h:Int)(hi:0≤i∧i≤l.length)
include hl hi
theorem aaH(n:Nat)(hn:1≤n∧n≤4):Con Tryz.prog 76 false [.pt 10000000 0,.v (.int .i64 n)] [.own 0 [.sl l.length (qj l),.v (.int .i64 i),.v (.int .i64 h)]] (fun r hs bs=>aUa n r hs∧∃i h:Int,(0≤i∧i≤l.length)∧bs=[.own 0 [.sl l.length (qj l),.v (.int .i64 i),.v (.int .i64 h)]]):=by
 have hq:=Qf hn.2
 refine Con.of_aw Tryz.func76 rfl Tryz.ntmps76 (by simp) (by simp) (by simp) (W.sound ?_)
 show @W Tryz.prog 33 ⟨_⟩ ⟨fun x σ=>@qW _ _ _ ⟨_⟩ _ ⟨_⟩ x σ⟩ _ _
 simp(disch:=omega)only[go_sem]
 refine jx false [10000000] (akc l hl i h hi n hn.2) (by simp(disch:=omega)only[go_sem]) (by simp(disch:=omega)only[go_sem]) rfl (qK (z:=0) (cs:=[.sl l.length (qj l),.v (.int .i64 i),.v (.int .i64 h)]) (by simp(disch:=omega)only[go_sem]) (by simp(disch:=omega)only[go_sem])) (by intro n hn;exact⟨_,List.mem_cons_self ..,by rw[List.mem_singleton.1 hn];rfl⟩) ?_
 rintro r hs bs ⟨⟨L,hL,hok,rfl,rfl⟩,i1,h1,hi1,rfl⟩-
 refine⟨by simp[qO];simp(disch:=omega)only[go_sem],?_⟩
 simp(disch:=omega)only[go_sem]
 have h16:(L.map ExV.dy).length=n*n:=by rw[List.length_map];exact hL
 have h200:∀d∈L.map ExV.dy,d.xs.length≤200:=fun d hd=>by
  obtain⟨x,hx,rfl⟩:=List.mem_map.1 hd
  have:=(zG (hok x hx)).2.2.1
  show(lim x.m).length≤200
  omega
 rw[aJM]
 generalize L.map ExV.dy=M at*
 refine qu (qS l hl i1 h1 hi1 12 (by omega)) ?_
 rintro r i2 h2 hi2 ⟨b,rfl⟩
 simp(disch:=omega)only[go_sem]
 cases b
 ·simp(disch:=omega)only[go_sem]
  refine qg [(0,100000000)] [.own 3 (qm DyV.cs M)] [.own 0 [.sl l.length (qj l),.v (.int .i64 i2),.v (.int .i64 h2)]] [.ag [.v (.int .i64 n),.rf 0 (0*3) (n*n)]] rfl (by simp(disch:=omega)only[go_sem]) (by simp(disch:=omega)only[go_sem]) (by simp) (by simp) ⟨⟨_,M,0,n*n,by omega,by omega,by omega,h16,h200,rfl,rfl⟩,_,_,hi2,rfl⟩
 ·simp(disch:=omega)only[go_sem]
  refine qu (qM l hl i2 h2 hi2 3 (by omega)) ?_
  rintro r i3 h3 hi3 ⟨q,hq,rfl⟩
  simp(disch:=omega)only[go_sem]
  by_cases c0:q=0
  ·simp(disch:=omega)only[go_sem,c0]
   refine jy (zq l hl i3 h3 hi3 [0,(n:Int)+1, -1] (by simp) (by simp)) ?_
   rintro r i4 h4 hi4 ⟨y,hy,rfl⟩
   have hy_b: -1≤y∧y≤5:=by
    simp only[List.mem_cons,List.not_mem_nil,or_false]at hy
    omega
   clear hy
   simp(disch:=omega)only[go_sem]
   refine qg [(0,100000000)] [.own 3 (qm DyV.cs M)] [.own 0 [.sl l.length (qj l),.v (.int .i64 i4),.v (.int .i64 h4)]] [.ag [.v (.int .i64 y),.rf 0 (0*3) (n*n)]] rfl (by simp(disch:=omega)only[go_sem]) (by simp(disch:=omega)only[go_sem]) (by simp) (by simp) ⟨⟨_,M,0,n*n,by omega,by omega,by omega,h16,h200,rfl,rfl⟩,_,_,hi4,rfl⟩
  by_cases c1:q=1
  ·simp(disch:=omega)only[go_sem,c0,c1]
   have h1n:1≤n*n:=Nat.mul_le_mul hn.1 hn.1
   refine⟨by omega,?_⟩
   rw[show(((n*n:Nat):Int)-1).toNat=n*n-1 by omega]
   refine qg [(0,100000000)] [.own 3 (qm DyV.cs M)] [.own 0 [.sl l.length (qj l),.v (.int .i64 i3),.v (.int .i64 h3)]] [.ag [.v (.int .i64 n),.rf 0 (1*3) (n*n-1)]] rfl (by simp(disch:=omega)only[go_sem]) (by simp(disch:=omega)only[go_sem]) (by simp) (by simp) ⟨⟨_,M,1,n*n-1,by omega,by omega,by omega,h16,h200,rfl,rfl⟩,_,_,hi3,rfl⟩
  simp(disch:=omega)only[go_sem,c0,c1]
  refine qp rfl [⟨0,[],[]⟩,⟨1,[],[]⟩,⟨2,[1],[]⟩,⟨3,[1],[]⟩,⟨4,[],[]⟩,⟨5,[],[]⟩] (by kernel_rfl) ?_
  simp(disch:=omega)only[go_sem]
  have h1n:1≤n*n:=Nat.mul_le_mul hn.1 hn.1
  obtain⟨d0,M,rfl⟩:∃d0 M',M=d0::M':=by
   cases M with
   |nil=>simp at h16;omega
   |cons d M=>exact⟨d,M,rfl⟩
  refine qu (Yg l hl i3 h3 hi3) ?_
  rintro r i4 h4 hi4 ⟨⟨S,xs,E⟩,hd,hr⟩
  obtain rfl:r=.ag [.v (.bool S),.sl xs.length (qc xs),.v (.int .i64 E)]:=hr
  dsimp only at hd
  simp(disch:=omega)only[go_sem,aDk]
  refine⟨by omega,by omega,qg [(0,100000000)] [.own 3 (qm DyV.cs (⟨S,xs,E⟩::M))] [.own 0 [.sl l.length (qj l),.v (.int .i64 i4),.v (.int .i64 h4)]] [.ag [.v (.int .i64 n),.rf 0 (0*3) (n*n)]] rfl (by simp(disch:=omega)only[go_sem]) (by simp(disch:=omega)only[go_sem]) (by simp) (by simp) ⟨⟨_,_,0,n*n,by omega,by simp at h16 ⊢;omega,by omega,by simp at h16 ⊢;omega,(fun d hd'=>?_),rfl,rfl⟩,_,_,hi4,rfl⟩⟩
  rcases List.mem_cons.1 hd' with rfl|hd'
  ·exact hd
  ·exact h200 d (List.mem_cons_of_mem _ hd')
theorem Jo:Con Tryz.prog 114 false [.pt 10000000 0] [.own 0 [.sl l.length (qj l),.v (.int .i64 i),.v (.int .i64 h)]] (J8 l aK3):=by
 refine Con.cur l i h (Q:=fun r hs=>(∀ob∈hs,ob.men fun _=>False)∧aK3 (qE (rhp hs []) 6 r)) ?_ fun _ _ h=>h
 refine Con.of_aw Tryz.func114 rfl Tryz.ntmps114 (by simp) (by simp) (by simp) (W.sound ?_)
 show @W Tryz.prog 47 ⟨_⟩ ⟨fun x σ=>@qW _ _ _ ⟨_⟩ _ ⟨_⟩ x σ⟩ _ _
 simp(disch:=omega)only[go_sem]
 refine qu (aMs l hl i h hi) ?_
 rintro r i1 h1 hi1 ⟨n,hn,rfl⟩
 simp(disch:=omega)only[go_sem]
 refine jx false [10000000] (aaH l hl i1 h1 hi1 n hn) (by simp(disch:=omega)only[go_sem]) (by simp(disch:=omega)only[go_sem]) rfl (qK (z:=0) (cs:=[.sl l.length (qj l),.v (.int .i64 i1),.v (.int .i64 h1)]) (by simp(disch:=omega)only[go_sem]) (by simp(disch:=omega)only[go_sem])) (by intro n hn;exact⟨_,List.mem_cons_self ..,by rw[List.mem_singleton.1 hn];rfl⟩) ?_
 rintro r hs bs ⟨⟨k,M,o,m,gk,g1,g0,g2,g3,rfl,rfl⟩,i2,h2,hi2,rfl⟩-
 refine⟨by simp[qO];simp(disch:=omega)only[go_sem],?_⟩
 simp(disch:=omega)only[go_sem]
 have hq:=Qf hn.2
 have hlen:((M.drop o).take m).length=m:=by rw[List.length_take,List.length_drop];omega
 have hc:cut (qm DyV.cs M) (o*3) (m*3)=qm DyV.cs ((M.drop o).take m):=adP Q7 o m
 have cM:=aeL k ((M.drop o).take m) (by omega) (fun d hd=>g3 d (List.mem_of_mem_drop (List.mem_of_mem_take hd)))
 rw[hlen]at cM
 have hm:∀(M:List DyV),∀ob∈[Ob.own 3 (qm DyV.cs M)],ob.men fun _=>False:=fun M ob ho=>by rw[List.mem_singleton.1 ho];exact of_eq_true aem
 refine qk cM ?_ (by simp(disch:=omega)only[go_sem,hc])
 simp(disch:=omega)only[go_sem]
 cases hB:ad6 k ((M.drop o).take m)
 ·simp(disch:=omega)only[go_sem]
  refine qg [(0,120000000)] [.own 3 (qm DyV.cs M)] [.own 0 [.sl l.length (qj l),.v (.int .i64 i2),.v (.int .i64 h2)]] [.ag [.v (.int .i64 k),.rf 0 (o*3) m]] rfl (by simp(disch:=omega)only[go_sem]) (by simp(disch:=omega)only[go_sem]) (by simp) (by simp) ⟨⟨hm M,Zx (by omega) g1 (by omega) g3⟩,_,_,hi2,rfl⟩
 obtain⟨n2,L,rfl,hML,hL⟩:=aFv hB
 have hm2:m=n2*n2:=by rw[←hlen,hML,List.length_map,hL.len]
 have hnn:n2=n∧o=0:=by
  have:=hL.n1
  have:=hL.n4
  obtain⟨hn1,hn4⟩:=hn
  rcases(show n=1∨n=2∨n=3∨n=4 by omega)with rfl|rfl|rfl|rfl<;>rcases(show n2=1∨n2=2∨n2=3∨n2=4 by omega)with rfl|rfl|rfl|rfl<;>omega
 obtain⟨rfl,rfl⟩:=hnn
 subst hm2
 have hMM:M=L.map ExV.dyv:=by
  rw[←hML,List.drop_zero,List.take_of_length_le (by omega)]
 simp(disch:=omega)only[go_sem]
 by_cases h1n:(1:Int)<n2
 rotate_left
 ·simp(disch:=omega)only[go_sem,h1n]
  refine qg [(0,120000000)] [.own 3 (qm DyV.cs M)] [.own 0 [.sl l.length (qj l),.v (.int .i64 i2),.v (.int .i64 h2)]] [.ag [.v (.int .i64 n2),.rf 0 (0*3) (n2*n2)]] rfl (by simp(disch:=omega)only[go_sem]) (by simp(disch:=omega)only[go_sem]) (by simp) (by simp) ⟨⟨hm M,Zx (by omega) g1 (by omega) g3⟩,_,_,hi2,rfl⟩
 simp(disch:=omega)only[go_sem,h1n]
 refine qu (qS l hl i2 h2 hi2 2 (by omega)) ?_
 rintro r i3 h3 hi3 ⟨b,rfl⟩
 simp(disch:=omega)only[go_sem]
 cases b
 ·simp(disch:=omega)only[go_sem]
  refine qg [(0,120000000)] [.own 3 (qm DyV.cs M)] [.own 0 [.sl l.length (qj l),.v (.int .i64 i3),.v (.int .i64 h3)]] [.ag [.v (.int .i64 n2),.rf 0 (0*3) (n2*n2)]] rfl (by simp(disch:=omega)only[go_sem]) (by simp(disch:=omega)only[go_sem]) (by simp) (by simp) ⟨⟨hm M,Zx (by omega) g1 (by omega) g3⟩,_,_,hi3,rfl⟩
 simp(disch:=omega)only[go_sem]
 refine qh (fun x:Nat×List DyV=>[(0,.pt 10000000 0),(2,.pt 5 0),(3,.v (.int .i64 n2)),(4,.pt 4 0),(5,.v (.int .i64 x.1))])
  (fun x=>[(3,.own 3 (qm DyV.cs x.2)),(4,.own 0 [.v (.int .i64 n2),.rf 3 0 (n2*n2)]),(5,.own 0 [.v (.int .i64 0),.v (.slice none 0 0)]),(10000000,.own 0 [.sl l.length (qj l),.v (.int .i64 i3),.v (.int .i64 h3)])])
  (fun x=>x.1≤n2∧x.2.length=n2*n2∧(∀d∈x.2,d.xs.length≤200)∧∀t,t<n2→x.2.getD t dy0=(L.getD t ex0).dyv) (fun x=>n2-x.1) (0,M) ⟨by simp,g2,g3,fun t ht=>?_⟩
  (Le.lst [(3,120000000),(4,60000000),(5,40000000)] _ _ rfl (by simp(disch:=omega)only[go_sem]) (by simp(disch:=omega)only[go_sem])) ?_
 ·have:n2≤n2*n2:=Nat.le_mul_of_pos_left n2 (by omega)
  rw[hMM,List.getD_eq_getElem?_getD,List.getElem?_map,List.getD_eq_getElem?_getD,List.getElem?_eq_getElem (by rw[hL.len];omega)];rfl
 rintro⟨j,D⟩ ⟨hj,hD,hD2,hD3⟩
 dsimp only at hj hD hD2 hD3 ⊢
 simp(disch:=omega)only[go_sem]
 refine qe (fun c1=>?_) (fun c1=>?_)
 ·have hnn:n2≤n2*n2:=Nat.le_mul_of_pos_left n2 (by omega)
  have hcut:=aMj (l:=D) (i:=j) (by omega)
  rw[hD3 j (by omega)]at hcut
  have hok:(L.getD j ex0).ok=true:=hL.ok _ (by rw[List.getD_eq_getElem?_getD,List.getElem?_eq_getElem (by rw[hL.len];omega)];exact List.getElem_mem _)
  have hst:∀y:ExV,(lim y.m).length≤200→(∀d∈D.set ((n2-1)*n2+j) y.dyv,d.xs.length≤200)∧∀t,t<n2→(D.set ((n2-1)*n2+j) y.dyv).getD t dy0=(L.getD t ex0).dyv:=fun y hy=>⟨fun d hd=>by
   rcases List.mem_or_eq_of_mem_set hd with hd|rfl
   ·exact hD2 d hd
   ·exact hy,fun t ht=>by
   have:n2≤(n2-1)*n2:=Nat.le_mul_of_pos_left n2 (by omega)
   rw[List.getD_eq_getElem?_getD,List.getElem?_set_ne (by omega),←List.getD_eq_getElem?_getD]
   exact hD3 t ht⟩
  have hidx:(n2-1)*n2+j<n2*n2:=zH (by omega) (by omega)
  have eidx:((n2:Int)-1)*n2+j=(((n2-1)*n2+j:Nat):Int):=by rw[Int.natCast_add,Int.natCast_mul];congr 2;omega
  have hset:=fun y:ExV=>aMh (L:=D) (i:=(n2-1)*n2+j) (s:=y.s) (xs:=lim y.m) (e:=y.e) (by omega)
  have hsl:∀y:ExV,(D.set ((n2-1)*n2+j) y.dyv).length=n2*n2:=fun y=>by rw[List.length_set];exact hD
  generalize (n2-1)*n2+j=p at*
  generalize L.getD j ex0=x at*
  have bx:=Ql hok
  have ca:=akf x x (bx.mono (by omega) (by omega)) (bx.mono (by omega) (by omega))
  have hl2:(lim (x.plus x).can.m).length≤200:=by
   have r:=zG hok
   have e:=aMl (K:=3000) (s:=(x.plus x).s) (m:=(x.plus x).m) (e:=(x.plus x).e) (s':=x.s) (m':=x.m) (e':=x.e+1) (K8 (by omega) (by omega)) (by omega) (by
    have h1:=jZ (K:=3000) (x:=x) (y:=x) (by omega) (by omega)
    have h2:dv 3000 x.s x.m (x.e+1)=x.val 3000*2:=by
     unfold ExV.val dv
     rw[show(x.e+1+((3000:Nat):Int)).toNat=(x.e+((3000:Nat):Int)).toNat+1 by omega,Int.pow_succ,Int.mul_assoc]
    have h1':dv 3000 (x.plus x).s (x.plus x).m (x.plus x).e=x.val 3000+x.val 3000:=h1
    omega)
   have:(x.plus x).can.m=oM x.m:=e.2.1
   rw[this]
   have:=yM (aBZ x.m)
   omega
  generalize (x.plus x).can=y at*
  dsimp only[ExV.dyv]at hcut
  simp(disch:=omega)only[go_sem,c1]
  refine qp rfl [⟨0,[],[]⟩,⟨1,[],[]⟩,⟨2,[1],[]⟩,⟨3,[1],[]⟩,⟨4,[1],[]⟩,⟨5,[1],[]⟩,⟨6,[1],[]⟩,⟨7,[1],[]⟩,⟨8,[1],[]⟩,⟨9,[1],[]⟩,⟨10,[1,9],[]⟩,⟨11,[1],[]⟩,⟨12,[1],[]⟩,⟨13,[1,9,12],[]⟩,⟨14,[1,9,12],[]⟩,⟨15,[1,9,12,14],[]⟩,⟨16,[1,9,12],[]⟩,⟨17,[1,9,12],[]⟩,⟨18,[1],[]⟩,⟨19,[],[]⟩,⟨20,[],[]⟩] (by kernel_rfl) ?_
  simp(disch:=omega)only[go_sem,hcut]
  refine⟨by omega,by omega,by omega,by omega,?_⟩
  refine qa (ca) ?_
  simp(disch:=omega)only[go_sem]
  simp(disch:=omega)only[go_sem,eidx]
  rw[hset y]
  exact⟨by omega,by omega,qb (j+1,D.set p y.dyv) [] ⟨by omega,hsl y,(hst y hl2).1,(hst y hl2).2⟩ (by show n2-(j+1)<n2-j;omega) rfl (by simp(disch:=omega)only[go_sem];try omega) (by simp(disch:=omega)only[go_sem];rfl)⟩
 ·simp(disch:=omega)only[go_sem,c1]
  refine qg [(0,3)] [.own 3 (qm DyV.cs D)] [.own 0 [.sl l.length (qj l),.v (.int .i64 i3),.v (.int .i64 h3)]] [.ag [.v (.int .i64 n2),.rf 0 (0*3) (n2*n2)]] rfl (by simp(disch:=omega)only[go_sem]) (by simp(disch:=omega)only[go_sem]) (by simp) (by simp) ⟨⟨hm D,Zx (by omega) (o:=0) (by omega) (by omega) hD2⟩,_,_,hi3,rfl⟩
end
end Go.Ab
namespace Go.Ab
open Go Go.Proofs
theorem Xi(l:List UInt8)(hl:l.length≤9223372036854775807):Con Tryz.prog 40 false [.sl l.length (qj l)] [] (fun r hs bs=>hs=[]∧bs=[]∧∃(n:Int) (L p:List DyV) (low:Int),beQ L∧(p.length≤101∧∀d∈p,d.xs.length≤200)∧(-201≤low∧low≤201)∧r=.tu [.ag [.v (.int .i64 n),.sl L.length (qm DyV.cs L)],.sl p.length (qm DyV.cs p),.v (.int .i64 low)]):=by
 refine Con.of_aw Tryz.func40 rfl Tryz.ntmps40 (by simp) (by simp) (by simp) (W.sound ?_)
 show @W Tryz.prog 18 ⟨_⟩ ⟨fun x σ=>@qW _ _ _ ⟨_⟩ _ ⟨_⟩ x σ⟩ _ _
 simp(disch:=omega)only[go_sem]
 refine ze (arb l hl) (by simp(disch:=omega)only[go_sem]) ?_
 rintro r hs ⟨rfl, -,⟨h,rfl⟩⟩
 refine⟨by simp(disch:=omega)only[go_sem],?_⟩
 simp(disch:=omega)only[go_sem]
 refine qu (Jo l hl 0 h (by omega)) ?_
 rintro r i1 h1 hi1 ⟨k,L,hk,hL1,hL2,rfl⟩
 simp(disch:=omega)only[go_sem]
 refine qp rfl [⟨0,[],[]⟩,⟨1,[0],[]⟩,⟨2,[0],[]⟩,⟨3,[0],[]⟩,⟨5,[0,3],[]⟩,⟨4,[0],[]⟩,⟨6,[0],[]⟩,⟨7,[],[]⟩,⟨8,[],[]⟩,⟨9,[],[]⟩] (by kernel_rfl) ?_
 simp(disch:=omega)only[go_sem]
 refine qu (JL l hl i1 h1 hi1 k (by omega)) ?_
 rintro r i2 h2 hi2 ⟨p,hp1,hp2,rfl⟩
 simp(disch:=omega)only[go_sem]
 refine qu (akd l hl i2 h2 hi2) ?_
 rintro r i3 h3 hi3 ⟨low,hlow,rfl⟩
 simp(disch:=omega)only[go_sem]
 exact qQ (by simp(disch:=omega)only[go_sem]) ⟨rfl,rfl,k,L,p,low,⟨hL1,hL2⟩,⟨hp1,hp2⟩,hlow,rfl⟩
theorem Y4{n:Nat}{L b:List ExV}(h:matV n L)(hbo:∀x∈b,x.ok=true){i:Nat}(hi:i<n):∀k,k≤n→(ZA n (yj n L) b i k).val (3000*n)=qA (fun j=>JQ n (mv 3000 L n) i j*(b.getD j ex0).val 3000) k∧ -((3000*n:Nat):Int)≤(ZA n (yj n L) b i k).e
 |0,_=>⟨aek _,by show-((3000*n:Nat):Int)≤0;omega⟩
 |k+1,hk=>by
  have h1n:=h.n1
  obtain⟨h1,h2⟩:=Y4 h hbo hi k (by omega)
  obtain⟨g1,g2⟩:=aD9 (K:=3000) h.len (h.eK (by omega)) hi (show k<n by omega)
  have e1:(yj n L).getD (i*n+k) ex0=afM n L i k:=by unfold yj;rw[baa hi (by omega)]
  have g3:=(zG (aZZ hbo k)).1.1
  rw[aaz,e1]
  have e2:3000*(n-1)+3000=3000*n:=by omega
  have g4: -((3000*n:Nat):Int)≤((afM n L i k).times (b.getD k ex0)).e:=by show _≤(afM n L i k).e+(b.getD k ex0).e;omega
  have g5:((afM n L i k).times (b.getD k ex0)).val (3000*n)=JQ n (mv 3000 L n) i k*(b.getD k ex0).val 3000:=by
   rw[←e2,ZD g2 (by omega),g1]
  exact⟨by rw[jZ h2 g4,h1,g5];rfl,K8 h2 g4⟩
theorem aJC{n:Nat}{L b:List ExV}{low:Int}(h:matV n L)(hbo:∀x∈b,x.ok=true)(h0:(zD n L).m≠0)(hlo: -200≤low):∃sg D:Int,0<D∧D=sg*(zT n (mv 3000 L n)*p2 (3000*n))∧
  ∀i,i<n→(Zh n (yj n L) b (zD n L) low i).eK 200∧inS 200 (Zh n (yj n L) b (zD n L) low i) (sg*(qA (fun j=>JQ n (mv 3000 L n) i j*(b.getD j ex0).val 3000) n*p2 (3000*n+200))) D:=by
 obtain⟨d1,d2⟩:=Y5 (K:=3000) n L h.len (h.eK (by omega))
 have hdv:(zD n L).val (3000*n)=sv (zD n L).s (zD n L).m*p2 ((zD n L).e+(3000*n:Nat)).toNat:=rfl
 have hp:=aac ((zD n L).e+(3000*n:Nat)).toNat
 have hp2:=aac (3000*n)
 have key:∀i,i<n→(Zh n (yj n L) b (zD n L) low i).eK 200∧(∀s3:ExV,s3=(ZA n (yj n L) b i n).over (zD n L) low 3→(Zh n (yj n L) b (zD n L) low i).lo.val 200≤s3.val 200)∧(∀s2:ExV,s2=(ZA n (yj n L) b i n).over (zD n L) low 2→s2.val 200≤(Zh n (yj n L) b (zD n L) low i).hi.val 200):=fun i hi=>by
  have el:∀mode,eK 200 (zh (fun x y=>x.over y low mode) ⟨ZA n (yj n L) b i n,ZA n (yj n L) b i n⟩ ⟨zD n L,zD n L⟩):=fun mode x hx=>by
   simp only[zh,List.mem_cons,List.not_mem_nil,or_false]at hx
   rcases hx with rfl|rfl|rfl|rfl<;>(show-((200:Nat):Int)≤low;omega)
  refine⟨⟨(jL (el 3)).2,(yt (el 2)).2⟩,fun s3 hs=>?_,fun s2 hs=>?_⟩
  ·exact(jL (el 3)).1 s3 (by rw[hs];simp[zh])
  ·exact(yt (el 2)).1 s2 (by rw[hs];simp[zh])
 cases hs:(zD n L).s
 ·have hD:0<zT n (mv 3000 L n)*p2 (3000*n):=by
   rw[←d1,hdv,hs]
   refine Int.mul_pos (Int.mul_pos ?_ hp) hp2
   show(0:Int)<sv false _
   unfold sv;simp;omega
  refine⟨1,_,hD,by rw[Int.one_mul],fun i hi=>?_⟩
  obtain⟨k1,k2,k3⟩:=key i hi
  obtain⟨v1,v2⟩:=Y4 h hbo hi n (Nat.le_refl n)
  obtain⟨o1, -⟩:=aff (Kz:=200) (low:=low) h0 v2 d2 (by omega)
  obtain⟨o2,o3⟩:=o1 hs
  rw[v1,d1,Int.mul_assoc]at o2 o3
  refine⟨k1,?_,?_⟩
  ·rw[Int.one_mul]
   exact Int.le_trans (Int.mul_le_mul_of_nonneg_right (k2 _ rfl) (Int.le_of_lt hD)) o2
  ·rw[Int.one_mul]
   exact Int.le_trans o3 (Int.mul_le_mul_of_nonneg_right (k3 _ rfl) (Int.le_of_lt hD))
 ·have hD:0< -1*(zT n (mv 3000 L n)*p2 (3000*n)):=by
   have:zT n (mv 3000 L n)*p2 (3000*n)<0:=by
    rw[←d1,hdv,hs]
    have:sv true (zD n L).m<0:=by unfold sv;simp;omega
    exact Int.mul_neg_of_neg_of_pos (Int.mul_neg_of_neg_of_pos this hp) hp2
   omega
  refine⟨-1,_,hD,rfl,fun i hi=>?_⟩
  obtain⟨k1,k2,k3⟩:=key i hi
  obtain⟨v1,v2⟩:=Y4 h hbo hi n (Nat.le_refl n)
  obtain⟨-,o1⟩:=aff (Kz:=200) (low:=low) h0 v2 d2 (by omega)
  obtain⟨o2,o3⟩:=o1 hs
  rw[v1,d1,Int.mul_assoc]at o2 o3
  refine⟨k1,?_,?_⟩
  ·refine Int.le_trans (Int.mul_le_mul_of_nonneg_right (k2 _ rfl) (Int.le_of_lt hD)) ?_
   rw[Int.mul_left_comm];omega
  ·refine Int.le_trans ?_ (Int.mul_le_mul_of_nonneg_right (k3 _ rfl) (Int.le_of_lt hD))
   rw[Int.mul_left_comm (((ZA n (yj n L) b i n).over (zD n L) low 2).val 200)];omega
theorem aJN{n:Nat}(hn:n≤4)(A:Nat→Nat→Int)(B:Nat→Int)(sg q:Int){i:Nat}(hi:i<n):qA (fun t=>A i t*(sg*(qA (fun j=>JQ n A t j*B j) n*q))) n=sg*(zT n A*B i*q):=by
 have e1:qA (fun t=>A i t*(sg*(qA (fun j=>JQ n A t j*B j) n*q))) n=qA (fun t=>A i t*qA (fun j=>JQ n A t j*B j) n) n*(sg*q):=by
  rw[←QH];exact qG fun t _=>by grind
 rw[e1,←Zq n n (fun t=>A i t) (fun t s=>JQ n A t s) B]
 have e2:qA (fun s=>qA (fun t=>A i t*JQ n A t s) n*B s) n=zT n A*B i:=by
  have:qA (fun s=>qA (fun t=>A i t*JQ n A t s) n*B s) n=qA (fun s=>(if i=s then zT n A else 0)*B s) n:=qG fun s hs=>by
   have:=arW hn A hi hs
   rw[←this];rfl
  rw[this,je (j:=i) hi (fun s _ hne=>by rw[if_neg (fun h=>hne h.symm),Int.zero_mul]),if_pos rfl]
 rw[e2];grind
set_option maxRecDepth 100000 in
set_option maxHeartbeats 4000000 in
theorem ajQ(l:List UInt8)(hl:l.length≤9223372036854775807):Con Tryz.prog 7 true [.sl l.length (qj l)] [] (isA (.v (.bool true))):=by
 refine Con.of_w (rs:=[.tmp 2]) Tryz.func7 rfl Tryz.ntmps7 rfl ?_
 simp(disch:=omega)only[go_sem]
 refine ze (Xi l hl) (by simp(disch:=omega)only[go_sem]) ?_
 rintro r hs ⟨rfl, -,⟨k,M,p,low,⟨a1,a2⟩,⟨p1,p2'⟩,hlow,rfl⟩⟩
 refine⟨by simp[qO],?_⟩
 simp(disch:=omega)only[go_sem]
 cases hB:(ad6 k M&&(decide ((p.length:Int)=k)&&(p.all DyV.ok&&(decide (-200≤low)&&decide (low≤200)))))
 ·refine qa (aaU k M p low a1 a2 p1 p2' hB) ?_
  simp(disch:=omega)only[go_sem]
  refine qk (Jv) ?_
  simp(disch:=omega)only[go_sem]
  exact qy
 simp only[Bool.and_eq_true,decide_eq_true_eq]at hB
 obtain⟨hA,hpl,hpo,hlo⟩:=hB
 obtain⟨n,L,rfl,rfl,hL⟩:=aFv hA
 obtain⟨b,rfl,hbo⟩:=beD hpo
 have hbl:b.length=n:=by rw[List.length_map]at hpl;omega
 rw[Zr,Zr,List.length_map,List.length_map,hbl]
 have h1:=hL.n1
 have h4:=hL.n4
 have hq:=Qf h4
 by_cases h0:(zD n L).m=0
 ·refine qa (akt n L b low hL hbl hbo h0 hlo) ?_
  simp(disch:=omega)only[go_sem]
  refine qk (Jv) ?_
  simp(disch:=omega)only[go_sem]
  exact qy
 have cS:=aks n L b low hL hbl hbo h0 hlo
 cases hf:(QI n (yj n L) b (zD n L) low n).all SpV.fit
 ·rw[hf,if_neg (by simp)]at cS
  refine qa (cS) ?_
  simp(disch:=omega)only[go_sem]
  refine qk (Jv) ?_
  simp(disch:=omega)only[go_sem]
  exact qy
 rw[hf,if_pos rfl]at cS
 obtain⟨sg,D,hD,hDe,hin⟩:=aJC hL hbo h0 hlo.1
 have hXl:((QI n (yj n L) b (zD n L) low n).map SpV.can).length=n:=by rw[List.length_map,YB]
 have hXg:∀i,i<n→((QI n (yj n L) b (zD n L) low n).map SpV.can).getD i sp0=(Zh n (yj n L) b (zD n L) low i).can∧(Zh n (yj n L) b (zD n L) low i).fit=true:=fun i hi=>by
  refine⟨?_,List.all_eq_true.1 hf _ (List.mem_map.2 ⟨i,List.mem_range.2 hi,rfl⟩)⟩
  unfold QI
  rw[List.map_map,List.getD_eq_getElem?_getD,List.getElem?_map,List.getElem?_range hi];rfl
 have hX:∀i,i<n→(((QI n (yj n L) b (zD n L) low n).map SpV.can).getD i sp0).ok=true∧(((QI n (yj n L) b (zD n L) low n).map SpV.can).getD i sp0).eK 200∧inS 200 (((QI n (yj n L) b (zD n L) low n).map SpV.can).getD i sp0) (sg*(qA (fun j=>JQ n (mv 3000 L n) i j*(b.getD j ex0).val 3000) n*p2 (3000*n+200))) D:=fun i hi=>by
  obtain⟨e1,e2⟩:=hXg i hi
  obtain⟨i1,i2⟩:=hin i hi
  rw[e1]
  have i3:(Zh n (yj n L) b (zD n L) low i).eK 3000:=⟨by have:=i1.1;omega,by have:=i1.2;omega⟩
  have ho:=ZN (K:=3000) (Nat.le_refl _) i3 ((Yw (K:=200) (j:=2800) i1.1 i1.2).1 (aPJ hD i2))
  have e3:(Zh n (yj n L) b (zD n L) low i).tel=(Zh n (yj n L) b (zD n L) low i).can:=if_pos e2
  rw[e3]at ho
  exact⟨ho,SpV.can_eK i1,(aeb i1).2 i2⟩
 have hrow:=fun i hi=>aJN h4 (mv 3000 L n) (fun j=>(b.getD j ex0).val 3000) sg (p2 (3000*n+200)) (i:=i) hi
 generalize (QI n (yj n L) b (zD n L) low n).map SpV.can=X at*
 refine qa (cS) ?_
 simp(disch:=omega)only[go_sem]
 refine qh (fun i:Nat=>[(3,.pt 3 0),(4,.sl n (qm ExV.cs b)),(6,.sl n (qm SpV.cs X)),(8,.v (.int .i64 i))])
  (fun _=>[(3,.own 0 [.v (.int .i64 n),.sl L.length (qm ExV.cs L)])]) (fun i=>i≤n) (fun i=>n-i) 0 (by omega)
  (Le.lst [(3,50000000)] _ _ rfl (by simp(disch:=omega)only[go_sem]) (by simp(disch:=omega)only[go_sem])) ?_
 intro i hi
 simp(disch:=omega)only[go_sem]
 refine qe (fun c1=>?_) (fun c1=>?_)
 rotate_left
 ·simp(disch:=omega)only[go_sem,c1]
  exact qy
 have hi2:i<n:=by omega
 simp(disch:=omega)only[go_sem,c1]
 refine qh (fun x:Nat×SpV×Bool=>[(3,.pt 3 0),(4,.sl n (qm ExV.cs b)),(6,.sl n (qm SpV.cs X)),(8,.v (.int .i64 i)),(9,.pt 9 0),(10,.v (.bool x.2.2)),(11,.v (.int .i64 x.1))])
  (fun x=>[(3,.own 0 [.v (.int .i64 n),.sl L.length (qm ExV.cs L)]),(9,.own 0 [.v (.bool x.2.1.lo.s),.sl (lim x.2.1.lo.m).length (qc (lim x.2.1.lo.m)),.v (.int .i64 x.2.1.lo.e),.v (.bool x.2.1.hi.s),.sl (lim x.2.1.hi.m).length (qc (lim x.2.1.hi.m)),.v (.int .i64 x.2.1.hi.e)])])
  (fun x=>x.1≤n∧x.2.1.ok=true∧(x.2.2=true→inS 3200 x.2.1 (qA (fun t=>mv 3000 L n i t*(sg*(qA (fun j=>JQ n (mv 3000 L n) t j*(b.getD j ex0).val 3000) n*p2 (3000*n+200)))) x.1) D)) (fun x=>n-x.1) (0,sp0,true) ⟨by simp,by decide+kernel,fun _=>?_⟩
  ((Le.nilC 110000000 1 (zo:=0) (cs:=[.v (.bool false),.v (.slice none 0 0),.v (.int .i64 0),.v (.bool false),.v (.slice none 0 0),.v (.int .i64 0)]) (by simp(disch:=omega)only[go_sem]) rfl).trans ((Le.nilC 110000000 4 (zo:=0) (cs:=[.v (.bool false),.sl 0 [],.v (.int .i64 0),.v (.bool false),.v (.slice none 0 0),.v (.int .i64 0)]) (by simp(disch:=omega)only[go_sem,List.set_cons_succ,List.set_cons_zero]) rfl).trans (Le.lst [(9,110000000)] _ _ rfl (by simp(disch:=omega)only[go_sem]) (by simp(disch:=omega)only[go_sem,List.set_cons_succ,List.set_cons_zero,sp0,ex0,qn])))) ?_
 ·show inS 3200 sp0 0 D
  unfold inS
  rw[show sp0.lo=ex0 from rfl,show sp0.hi=ex0 from rfl,aek,Int.zero_mul]
  exact⟨Int.le_refl _,Int.le_refl _⟩
 rintro⟨j,s,g⟩ ⟨hj,hs,hv⟩
 dsimp only at hj hs hv ⊢
 simp(disch:=omega)only[go_sem]
 refine qe (fun c2=>?_) (fun c2=>?_)
 ·cases g
  ·simp(disch:=omega)only[go_sem,c2]
   refine qp rfl [⟨0,[],[]⟩,⟨1,[],[]⟩,⟨2,[],[]⟩,⟨3,[2],[]⟩,⟨4,[2],[]⟩,⟨5,[2],[]⟩,⟨6,[2],[]⟩,⟨7,[],[]⟩,⟨8,[],[]⟩,⟨9,[],[]⟩] (by kernel_rfl) ?_
   simp(disch:=omega)only[go_sem]
   exact qb (i+1) [] (by show i+1≤n;omega) (by show n-(i+1)<n-i;omega) rfl (by simp(disch:=omega)only[go_sem];try omega) (by simp(disch:=omega)only[go_sem])
  have hv:=hv rfl
  have hj2:j<n:=by omega
  obtain⟨x1,x2,x3⟩:=hX j hj2
  have hx:=zH hi2 hj2
  have hcut:=zC (l:=L) (i:=i*n+j) (by rw[hL.len];exact hx)
  have hcx:=yl (l:=X) (i:=j) (by omega)
  have ox:=hL.ok (L.getD (i*n+j) ex0) (by rw[List.getD_eq_getElem?_getD,List.getElem?_eq_getElem (by rw[hL.len];exact hx)];exact List.getElem_mem _)
  have vx:(L.getD (i*n+j) ex0).val 3000=mv 3000 L n i j:=rfl
  have hLl:=hL.len
  have eidx:(i:Int)*n+j=((i*n+j:Nat):Int):=by rw[Int.natCast_add,Int.natCast_mul]
  generalize L.getD (i*n+j) ex0=x at*
  generalize i*n+j=p at*
  generalize X.getD j sp0=y at*
  have ovx:SpV.ok ⟨x,x⟩=true:=by
   show(x.ok&&(x.ok&&decide (x.val 3000≤x.val 3000)))=true
   rw[ox,decide_eq_true (Int.le_refl _)];rfl
  have cO:=aro x x ovx
  have cM:=akv ⟨x,x⟩ y ovx x1
  have ex:=(zG ox).1.1
  have ept:SpV.eK 3000 ⟨x,x⟩:=⟨ex,ex⟩
  have ep:(SpV.times ⟨x,x⟩ y).eK 3200:=SpV.times_eK ept x2
  have hp:=aqd ept x2 (by omega) hD (aPI (K:=3000) (x:=x) (D:=1)) x3
  have op:(SpV.times ⟨x,x⟩ y).tel.ok=true:=ZN (K:=3200) (by omega) ep (ak0 ept x2)
  rw[Int.mul_one,Int.one_mul,vx]at hp
  have hpt:(SpV.times ⟨x,x⟩ y).fit=true→inS 3200 (SpV.times ⟨x,x⟩ y).tel (mv 3000 L n i j*(sg*(qA (fun k=>JQ n (mv 3000 L n) j k*(b.getD k ex0).val 3000) n*p2 (3000*n+200)))) D:=fun hf=>by
   rw[show(SpV.times ⟨x,x⟩ y).tel=(SpV.times ⟨x,x⟩ y).can from if_pos hf]
   exact(aeb ep).2 hp
  generalize (SpV.times ⟨x,x⟩ y).fit=f1 at*
  generalize (SpV.times ⟨x,x⟩ y).tel=q at*
  have cA:=akx s q hs op
  have es:=(Qg hs).1
  have eq':=(Qg op).1
  have es2:s.eK 3200:=⟨by have:=es.1;omega,by have:=es.2;omega⟩
  have eq2:q.eK 3200:=⟨by have:=eq'.1;omega,by have:=eq'.2;omega⟩
  have esum:(s.plus q).eK 3000:=SpV.plus_eK es eq'
  have esum2:(s.plus q).eK 3200:=SpV.plus_eK es2 eq2
  have osum:(s.plus q).tel.ok=true:=ZN (K:=3000) (Nat.le_refl _) esum (by
   show(s.lo.plus q.lo).val 3000≤(s.hi.plus q.hi).val 3000
   rw[jZ es.1 eq'.1,jZ es.2 eq'.2]
   have:=(Qg hs).2.1
   have:=(Qg op).2.1
   omega)
  have hnew:(f1&&(s.plus q).fit)=true→inS 3200 (s.plus q).tel (qA (fun t=>mv 3000 L n i t*(sg*(qA (fun j=>JQ n (mv 3000 L n) t j*(b.getD j ex0).val 3000) n*p2 (3000*n+200)))) (j+1)) D:=fun hf=>by
   rw[Bool.and_eq_true]at hf
   rw[show(s.plus q).tel=(s.plus q).can from if_pos hf.2]
   exact(aeb esum2).2 (aCy es2 eq2 hv (hpt hf.1))
  simp(disch:=omega)only[go_sem,c2]
  refine qp rfl [⟨0,[],[]⟩,⟨1,[],[]⟩,⟨2,[1],[]⟩,⟨3,[1],[]⟩,⟨4,[1],[]⟩,⟨5,[1],[]⟩,⟨6,[1,4],[]⟩,⟨7,[1],[]⟩,⟨8,[],[]⟩,⟨9,[],[]⟩,⟨10,[1,4,9],[]⟩,⟨11,[1,4,9],[]⟩,⟨12,[1,4,9,11],[]⟩,⟨13,[1,4,9,11],[]⟩,⟨14,[1,4,9,11],[]⟩,⟨15,[1,4,9,11],[]⟩,⟨16,[1,4,9,11,14],[]⟩,⟨17,[1,4,9,11],[]⟩,⟨18,[1,4,9],[]⟩,⟨19,[1,4,9],[]⟩,⟨24,[1,4,9,11,14,19],[]⟩,⟨20,[],[140000000]⟩,⟨21,[],[140000000]⟩,⟨22,[],[140000000]⟩,⟨23,[],[140000000]⟩,⟨25,[],[]⟩,⟨26,[],[]⟩] (by kernel_rfl) ?_
  simp(disch:=omega)only[go_sem,eidx,hcut]
  refine⟨by omega,by omega,by omega,by omega,?_⟩
  refine qa (cO) ?_
  simp(disch:=omega)only[go_sem]
  refine qp rfl [⟨0,[],[]⟩,⟨1,[0],[]⟩,⟨2,[0],[]⟩,⟨3,[0],[]⟩,⟨4,[0],[]⟩,⟨9,[0,4],[]⟩,⟨5,[],[160000000]⟩,⟨6,[],[160000000]⟩,⟨7,[],[160000000]⟩,⟨8,[],[160000000]⟩,⟨10,[],[]⟩,⟨11,[],[]⟩] (by kernel_rfl) ?_
  simp(disch:=omega)only[go_sem,hcx]
  refine⟨by omega,by omega,?_⟩
  refine qa (cM) ?_
  simp(disch:=omega)only[go_sem]
  refine qa (cA) ?_
  simp(disch:=omega)only[go_sem]
  cases f1
  ·simp(disch:=omega)only[go_sem]
   exact qb (j+1,(s.plus q).tel,false) [] ⟨by dsimp only;omega,osum,fun h=>by cases h⟩ (by show n-(j+1)<n-j;omega) rfl (by simp(disch:=omega)only[go_sem];try omega) (by simp(disch:=omega)only[go_sem])
  ·simp(disch:=omega)only[go_sem]
   exact qb (j+1,(s.plus q).tel,(s.plus q).fit) [] ⟨by dsimp only;omega,osum,fun h=>hnew (by rw[Bool.true_and];exact h)⟩ (by show n-(j+1)<n-j;omega) rfl (by simp(disch:=omega)only[go_sem];try omega) (by simp(disch:=omega)only[go_sem])
 ·cases g
  ·simp(disch:=omega)only[go_sem,c2]
   refine qp rfl [⟨0,[],[]⟩,⟨1,[],[]⟩,⟨2,[],[]⟩,⟨3,[2],[]⟩,⟨4,[2],[]⟩,⟨5,[2],[]⟩,⟨6,[2],[]⟩,⟨7,[],[]⟩,⟨8,[],[]⟩,⟨9,[],[]⟩] (by kernel_rfl) ?_
   simp(disch:=omega)only[go_sem]
   exact qb (i+1) [] (by show i+1≤n;omega) (by show n-(i+1)<n-i;omega) rfl (by simp(disch:=omega)only[go_sem];try omega) (by simp(disch:=omega)only[go_sem])
  have hv:=hv rfl
  have hjn:j=n:=by omega
  rw[hjn,hrow i hi2]at hv
  have ob:=hbo (b.getD i ex0) (by rw[List.getD_eq_getElem?_getD,List.getElem?_eq_getElem (by omega)];exact List.getElem_mem _)
  have hcut:=zC (l:=b) (i:=i) (by omega)
  have cH:=akw s (b.getD i ex0) hs ob
  have hin2:aNq s (b.getD i ex0)=true:=by
   have es:=(Qg hs).1
   have eb:=(zG ob).1.1
   have e1:sg*(zT n (mv 3000 L n)*(b.getD i ex0).val 3000*p2 (3000*n+200))=(b.getD i ex0).val (3000+200)*D:=by
    rw[hDe,show(b.getD i ex0).val (3000+200)=(b.getD i ex0).val 3000*p2 200 from akW eb,yY];grind
   rw[e1]at hv
   unfold aNq
   rw[decide_eq_true ((Yw (K:=3000) (j:=200) es.1 eb).2 (Int.le_of_mul_le_mul_right hv.1 hD)),decide_eq_true ((Yw (K:=3000) (j:=200) eb es.2).2 (Int.le_of_mul_le_mul_right hv.2 hD))];rfl
  rw[hin2]at cH
  generalize b.getD i ex0=z at*
  simp(disch:=omega)only[go_sem,c2]
  refine qp rfl [⟨0,[],[]⟩,⟨1,[],[]⟩,⟨2,[],[]⟩,⟨3,[2],[]⟩,⟨4,[2],[]⟩,⟨5,[2],[]⟩,⟨6,[2],[]⟩,⟨7,[],[]⟩,⟨8,[],[]⟩,⟨9,[],[]⟩] (by kernel_rfl) ?_
  simp(disch:=omega)only[go_sem,hcut]
  refine⟨by omega,by omega,?_⟩
  refine qk (cH) ?_
  simp(disch:=omega)only[go_sem]
  exact qb (i+1) [] (by show i+1≤n;omega) (by show n-(i+1)<n-i;omega) rfl (by simp(disch:=omega)only[go_sem];try omega) (by simp(disch:=omega)only[go_sem])
end Go.Ab
namespace Go.Proofs.YtcobffkepgogiaaGreatDoor
open Go.ChangeShapes Go.WideShapes Go.ChangeAt Go.RowKit Go.Ab
theorem own:ownKnob Tryz.prog.godebug=none:=by kernel_rfl
theorem apZ:laidOutB Tryz.prog=true:=by kernel_rfl
theorem ao5:Tryz.prog.globalNamed "math/bits.deBruijn64tab" =some 1:=by kernel_rfl
theorem aJp:(Tryz.prog.globals[1]?).map (·.type)=some 262:=by kernel_rfl
theorem aJo:Tryz.prog.underlying 262=some (.array 64 5):=by kernel_rfl
theorem aJs:Tryz.prog.underlying 5=some (.int .u8):=by kernel_rfl
theorem aJt:Tryz.prog.cellsOf 5=1:=by kernel_rfl
theorem aJq:Tryz.prog.cellsOf 262=64:=by kernel_rfl
noncomputable def yN:List (String×DataW Unit):=[("math/bits.deBruijn32tab",Rows.laid_math_bits_deBruijn32tab),("math/bits.deBruijn64tab",Rows.laid_math_bits_deBruijn64tab)]
theorem aJr{W:World}(h:laidMetH Tryz.prog yN W):Gd W:=by
 have h':laidMet Tryz.prog yN W:=h
 have h2:laidMet Tryz.prog [("math/bits.deBruijn64tab",Lib.tabData .u8 (Lib.deBruijn64tab.map Int.ofNat))] W:=laidMet.tail h'
 have hT:=Lib.tabIs_of_head ao5 aJp aJo aJs aJt aJq h2
 intro g l hg
 unfold glb at hg
 split at hg
 ·rename_i e
  subst e
  cases hg
  have hc:∀i,i<Lib.deBruijn64tab.length→W.cell? ⟨1,i,none⟩=some (.int .u8 ((Lib.deBruijn64tab.getD i 0:Nat):Int)):=fun i hi=>by
   have:=hT.cell ao5 i (by simpa using hi)
   rw[this]
   simp[List.getD,hi]
  exact⟨afG (hc 0 (by decide)),hc⟩
 ·cases hg
noncomputable def aao(os:Os):World:=
 let w0:=World.holding Tryz.prog os ⟨#[],#[],[]⟩
 {w0 with heap:=(w0.heap.modify 1 fun
   | .cells _ t frozen=>.cells (Lib.deBruijn64tab.map fun z=>Value.int .u8 (Int.ofNat z)).toArray t frozen
   |o=>o).modify 0 fun
   | .cells _ t frozen=>.cells (Lib.deBruijn32tab.map fun z=>Value.int .u8 (Int.ofNat z)).toArray t frozen
   |o=>o}
theorem YS(os:Os)(args:Array Value):laidMetH Tryz.prog yN ((aao os).forCall (fun _ _=>0) ⟨#[],args,[]⟩).memory:=
 laidMetH_of_parts (laidMet_of_run' 8 (by kernel_rfl) (by kernel_rfl)) (by kernel_rfl)
end Go.Proofs.YtcobffkepgogiaaGreatDoor
