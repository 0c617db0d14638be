/- What the proof of this claim stands on: the walks of the functions and the plain laws, part 6. -/
import Derived.Test.YtgkehjnacdccfaaGreatDoorFnExpTwiceLib5
import Derived.Test.YtgkehjnacdccfaaGreatDoorRows
import Derived.Test.YtgkehjnacdccfaaGreatDoorCards
import Derived.Test.YtgkehjnacdccfaaGreatDoorTie
import Derived.Handed
import Derived.ChangeSame
import Derived.JoinedOf
import Derived.RowKit
import Derived.WalkKit
import Derived.ProofKit
import Derived.OpenShut
import Derived.LaidLaws
import Derived.LaidHandle
import Derived.SevenTiedAt
import Derived.Stop.LaidErr
import Derived.Lib.LaidTab
set_option linter.unusedVariables false
set_option linter.unusedSimpArgs false
namespace Go.Ab
def aTL(n:Nat)(A:Nat→Nat→Int)(k j:Nat):Int:=sgI (k+j)*jK (n-1) (ans A j k)
theorem aTo{n:Nat}(hn:n≤4)(A:Nat→Nat→Int){i j:Nat}(hi:i<n)(hj:j<n):jg n A (aTL n A) i j=if i=j then jK n A else 0:=by
 rcases(show n=1∨n=2∨n=3∨n=4 by omega)with rfl|rfl|rfl|rfl
 ·obtain rfl:i=0:=by omega
  obtain rfl:j=0:=by omega
  rw[bkW,avz,if_pos rfl]
  simp[aTL,sgI,jK]
 ·simp only[bkV,aTL,anw,show 2-1=1 from rfl,avz]
  rcases(show i=0∨i=1 by omega)with rfl|rfl<;>rcases(show j=0∨j=1 by omega)with rfl|rfl<;>(simp[sgI,ans,skp];try grind)
 ·simp only[bkU,aTL,anv,show 3-1=2 from rfl,anw]
  rcases(show i=0∨i=1∨i=2 by omega)with rfl|rfl|rfl<;>rcases(show j=0∨j=1∨j=2 by omega)with rfl|rfl|rfl<;>(simp[sgI,ans,skp];try grind)
 ·simp only[bkT,aTL,aK3,show 4-1=3 from rfl,anv]
  rcases(show i=0∨i=1∨i=2∨i=3 by omega)with rfl|rfl|rfl|rfl<;>rcases(show j=0∨j=1∨j=2∨j=3 by omega)with rfl|rfl|rfl|rfl<;>(simp[sgI,ans,skp];try grind)
end Go.Ab
namespace Go.Ab
open Go Go.Proofs
/-! ### What determinants are worth-/
end Go.Ab
namespace Go.Ab
open Go Go.Proofs
/-! ### Turned matrices-/
def bnE(n:Nat)(l:List ExV):List ExV:=gl n (fun i j=>l.getD (j*n+i) ex0) (n*n)
end Go.Ab
namespace Go.Ab
open Go Go.Proofs
/-! ### Adjugates and minors-/
def bnW(n:Nat)(l:List ExV)(a b:Nat):ExV:=(bk2 (n-1) (mnR n l b a n)).sgn (b+a)
def bok(n:Nat)(l:List ExV):List ExV:=gl n (bnW n l) (n*n)
end Go.Ab
namespace Go.Ab
open Go
section
variable {X:Type}{f:X→List AV}{z:Nat}
end
end Go.Ab
namespace Go.Ab
open Go Go.Proofs
section
variable (l:List UInt8)(hl:l.length≤9223372036854775807)(i h:Int)(hi:0≤i∧i≤l.length)
include hl hi
def bnA(r:AV):Prop:=∃L:List DyV,L.length≤101∧(∀d∈L,d.xs.length≤200)∧r=.sl L.length (qn DyV.cs L)
end
end Go.Ab
namespace Go.Ab
open Go Go.Proofs
/-! ### Polynomials of a matrix-/
def bkS(n:Nat)(L:List ExV):Nat→List ExV
 |0=>gId n
 |k+1=>ym n (bkS n L k) L
def bna(n:Nat)(L p:List ExV):Nat→List ExV
 |0=>qF n (gId n) ex0
 |k+1=>biC n (bna n L p k) (qF n (bkS n L k) (p.getD k ex0))
end Go.Ab
namespace Go.Ab
def idI(i j:Nat):Int:=if i=j then 1 else 0
def z8(n:Nat)(A:Nat→Nat→Int):Nat→Nat→Nat→Int
 |0=>idI
 |k+1=>jg n (z8 n A k) A
def pm3(A:Nat→Nat→Int)(r:Nat):Int:=jK 3 (ans A r r)
end Go.Ab
namespace Go.Ab
/-! ### Ranks-/
theorem Jf{f:Nat→Int}{k:Nat}:∀{m:Nat},k≤m→(∀i,k≤i→f i=0)→qk f m=qk f k
 |0,h,_=>by
  obtain rfl:k=0:=by omega
  rfl
 |m+1,h,hz=>by
  by_cases e:k=m+1
  ·rw[e]
  ·rw[qk,Jf (by omega) hz,hz m (by omega),Int.add_zero]
def al2(n k:Nat)(A:Nat→Nat→Int):Prop:=∃(c:Int) (B C:Nat→Nat→Int),c≠0∧∀i j,i<n→j<n→c*A i j=qk (fun t=>B i t*C t j) k
theorem Q7{n k:Nat}{A A':Nat→Nat→Int}(h:∀i j,i<n→j<n→A i j=A' i j):al2 n k A→al2 n k A'
 |⟨c,B,C,h0,h1⟩=>⟨c,B,C,h0,fun i j hi hj=>by rw[←h i j hi hj];exact h1 i j hi hj⟩
theorem aaY{n k:Nat}{A:Nat→Nat→Int}:al2 n k A→al2 n k (fun i j=>A j i)
 |⟨c,B,C,h0,h1⟩=>⟨c,fun i t=>C t i,fun t j=>B j t,h0,fun i j hi hj=>by
  rw[h1 j i hj hi];exact qu fun t _=>Int.mul_comm _ _⟩
theorem Y0(n k:Nat)(f:Nat→Int)(g:Nat→Nat→Int)(h:Nat→Int):qk (fun s=>qk (fun t=>f t*g t s) k*h s) n=qk (fun t=>f t*qk (fun s=>g t s*h s) n) k:=by
 have e1:qk (fun s=>qk (fun t=>f t*g t s) k*h s) n=qk (fun s=>qk (fun t=>f t*(g t s*h s)) k) n:=
  qu fun s _=>by rw[←zE];exact qu fun t _=>Int.mul_assoc _ _ _
 have e2:qk (fun t=>f t*qk (fun s=>g t s*h s) n) k=qk (fun t=>qk (fun s=>f t*(g t s*h s)) n) k:=
  qu fun t _=>by rw[←q9]
 rw[e1,e2,yf]
theorem asc{n k:Nat}{A:Nat→Nat→Int}(D:Nat→Nat→Int):al2 n k A→al2 n k (jg n A D)
 |⟨c,B,C,h0,h1⟩=>⟨c,B,jg n C D,h0,fun i j hi hj=>by
  show c*qk (fun t=>A i t*D t j) n=qk (fun t=>B i t*qk (fun s=>C t s*D s j) n) k
  rw[←Y0,←q9]
  exact qu fun s hs=>by rw[←h1 i s hi hs,Int.mul_assoc]⟩
theorem aaZ{n k:Nat}{A:Nat→Nat→Int}(D:Nat→Nat→Int):al2 n k A→al2 n k (jg n D A)
 |⟨c,B,C,h0,h1⟩=>⟨c,jg n D B,C,h0,fun i j hi hj=>by
  show c*qk (fun t=>D i t*A t j) n=qk (fun t=>qk (fun s=>D i s*B s t) n*C t j) k
  rw[Y0,←q9]
  exact qu fun s hs=>by rw[←h1 s j hs hj,Int.mul_left_comm]⟩
def dgI(c:Int)(i j:Nat):Int:=if i=j then c else 0
theorem aV2{n:Nat}(c:Int)(A:Nat→Nat→Int){i j:Nat}(hi:i<n):jg n (dgI c) A i j=c*A i j:=by
 unfold jg
 rw[ja (j:=i) hi (fun t _ hne=>by unfold dgI;rw[if_neg (fun h=>hne h.symm),Int.zero_mul])]
 unfold dgI;rw[if_pos rfl]
theorem baZ{n:Nat}(hn:n≤4){c:Int}(hc:c≠0):jK n (dgI c)≠0:=by
 rcases(show n=0∨n=1∨n=2∨n=3∨n=4 by omega)with rfl|rfl|rfl|rfl|rfl
 ·intro h;cases h
 ·rw[avz];simp[dgI,hc]
 ·rw[anw];simp[dgI,hc]
 ·rw[anv];simp[dgI,hc]
 ·rw[aK3];simp[dgI,hc]
theorem aIA{n:Nat}(hn:n≤4)(h1:1≤n){A:Nat→Nat→Int}(h:∀i,A i (n-1)=0):jK n A=0:=by
 rcases(show n=1∨n=2∨n=3∨n=4 by omega)with rfl|rfl|rfl|rfl
 ·have:=h 0
  rw[avz];simpa using this
 ·have h:∀i,A i 1=0:=h
  rw[anw];simp[h]
 ·have h:∀i,A i 2=0:=h
  rw[anv];simp[h]
 ·have h:∀i,A i 3=0:=h
  rw[aK3];simp[h]
theorem aF3{n k:Nat}(hn:n≤4)(hk:k<n){A:Nat→Nat→Int}:al2 n k A→jK n A=0
 |⟨c,B,C,h0,h1⟩=>by
  have e:jK n (jg n (dgI c) A)=jK n (jg n (fun i t=>if t<k then B i t else 0) C):=yZ fun i j hi hj=>by
   rw[aV2 c A hi,h1 i j hi hj]
   show _=qk (fun t=>(if t<k then B i t else 0)*C t j) n
   rw[Jf (f:=fun t=>(if t<k then B i t else 0)*C t j) (k:=k) (by omega) (fun t ht=>by rw[if_neg (by omega),Int.zero_mul])]
   exact qu fun t ht=>by rw[if_pos ht]
  rw[JO hn,JO hn,aIA hn (by omega) (A:=fun i t=>if t<k then B i t else 0) (fun i=>if_neg (by omega)),Int.zero_mul]at e
  exact(Int.mul_eq_zero.1 e).resolve_left (baZ hn h0)
theorem auh{r:Nat}(hr:r≤4){T:Nat→Nat→Int}(hd:∀t,t<r→T t t≠0)(hz:∀s t,t<s→s<r→T s t=0):jK r T≠0:=by
 rcases(show r=0∨r=1∨r=2∨r=3∨r=4 by omega)with rfl|rfl|rfl|rfl|rfl
 ·intro h;cases h
 ·rw[avz];exact hd 0 (by omega)
 ·rw[anw,hz 1 0 (by omega) (by omega)]
  simp[hd 0 (by omega),hd 1 (by omega)]
 ·rw[anv,hz 1 0 (by omega) (by omega),hz 2 0 (by omega) (by omega),hz 2 1 (by omega) (by omega)]
  simp[hd 0 (by omega),hd 1 (by omega),hd 2 (by omega)]
 ·rw[aK3,hz 1 0 (by omega) (by omega),hz 2 0 (by omega) (by omega),hz 2 1 (by omega) (by omega),hz 3 0 (by omega) (by omega),hz 3 1 (by omega) (by omega),hz 3 2 (by omega) (by omega)]
  simp[hd 0 (by omega),hd 1 (by omega),hd 2 (by omega),hd 3 (by omega)]
structure isRank(n:Nat)(A:Nat→Nat→Int)(r:Nat):Prop where
 le:r≤n
 up:al2 n r A
 low:∀k,al2 n k A→r≤k
 full:r=n→jK n A≠0
theorem isRank.turn{n r s:Nat}{A:Nat→Nat→Int}(h:isRank n A r)(g:isRank n (fun i j=>A j i) s):s=r:=
 Nat.le_antisymm (g.low r (aaY h.up)) (h.low s (aaY g.up))
theorem isRank.congr{n r:Nat}{A B:Nat→Nat→Int}(h:isRank n A r)(e:∀i j,i<n→j<n→A i j=B i j):isRank n B r:=
 ⟨h.le,Q7 e h.up,fun k hk=>h.low k (Q7 (fun i j hi hj=>(e i j hi hj).symm) hk),fun hr=>by rw[←yZ e];exact h.full hr⟩
theorem isRank.mul{n r s t:Nat}{A B:Nat→Nat→Int}(h:isRank n A r)(g:isRank n B s)(p:isRank n (jg n A B) t):t≤r∧t≤s:=
 ⟨p.low r (asc B h.up),p.low s (aaZ A g.up)⟩
structure elim(n:Nat)(A C:Nat→Nat→Int)(r j:Nat):Prop where
 le:r≤n
 rj:r≤j
 u:∃U:Nat→Nat→Int,jK n U≠0∧∀i k,i<n→k<n→C i k=jg n U A i k
 p:∃p:Nat→Nat,∀t,t<r→p t<j∧p t<n∧C t (p t)≠0∧∀s,t<s→s<n→C s (p t)=0
 z:∀i k,r≤i→i<n→k<j→k<n→C i k=0
theorem Zh(n:Nat)(A B C:Nat→Nat→Int)(i j:Nat):jg n (jg n A B) C i j=jg n A (jg n B C) i j:=
 Y0 n n (fun t=>A i t) B (fun s=>C s j)
theorem elim.rank{n:Nat}(hn:n≤4){A C:Nat→Nat→Int}{r:Nat}(h:elim n A C r n):isRank n A r:=by
 obtain⟨hle, -,⟨U,hU,hC⟩,⟨p,hp⟩,hz⟩:=h
 have lowC:∀k,al2 n k C→r≤k:=fun k hk=>by
  rcases Nat.lt_or_ge k r with g|g
  ·exfalso
   obtain⟨c,B,D,h0,h1⟩:=hk
   have ht:al2 r k (fun s t=>C s (p t)):=⟨c,B,fun u t=>D u (p t),h0,fun s t hs ht=>h1 s (p t) (by omega) (hp t ht).2.1⟩
   exact auh (by omega) (fun t ht=>(hp t ht).2.2.1) (fun s t hst hs=>(hp t (by omega)).2.2.2 s hst (by omega)) (aF3 (by omega) g ht)
  ·exact g
 refine⟨hle,?_,fun k hk=>lowC k (Q7 (fun i j hi hj=>(hC i j hi hj).symm) (aaZ U hk)),fun hr hd=>?_⟩
 ·
  obtain⟨V,hV⟩:∃V:Nat→Nat→Int,∀i j,i<n→j<n→jg n V U i j=if i=j then jK n U else 0:=by
   refine⟨fun i j=>aTL n (fun a b=>U b a) j i,fun i j hi hj=>?_⟩
   have:=aTo hn (fun a b=>U b a) hj hi
   rw[aIz hn]at this
   have e2:(if i=j then jK n U else 0)=if j=i then jK n U else 0:=by
    by_cases e:i=j
    ·rw[if_pos e,if_pos e.symm]
    ·rw[if_neg e,if_neg (fun h=>e h.symm)]
   rw[e2,←this]
   exact qu fun t _=>Int.mul_comm _ _
  refine⟨jK n U,V,C,hU,fun i j hi hj=>?_⟩
  have e1:qk (fun t=>V i t*C t j) r=qk (fun t=>V i t*C t j) n:=by
   have:qk (fun t=>V i t*C t j) n=qk (fun t=>if t<r then V i t*C t j else 0) n:=qu fun t ht=>by
    by_cases g:t<r
    ·rw[if_pos g]
    ·rw[if_neg g,hz t j (by omega) ht hj hj,Int.mul_zero]
   rw[this,Jf hle (fun t ht=>if_neg (by omega))]
   exact qu fun t ht=>by rw[if_pos ht]
  rw[e1]
  have e2:qk (fun t=>V i t*C t j) n=jg n (jg n V U) A i j:=by
   rw[Zh]
   exact qu fun t ht=>by rw[hC t j ht hj]
  rw[e2]
  show _=qk (fun t=>jg n V U i t*A t j) n
  rw[ja (j:=i) hi (fun t ht hne=>by rw[hV i t hi ht,if_neg (fun h=>hne h.symm),Int.zero_mul]),hV i i hi hi,if_pos rfl]
 ·subst hr
  have h1:jK r C=0:=by
   rw[yZ hC,JO hn,hd,Int.mul_zero]
  have h2:jK r (jg r C (fun u t=>if u=p t then 1 else 0))=0:=by rw[JO hn,h1,Int.zero_mul]
  refine auh hn (T:=fun s t=>C s (p t)) (fun t ht=>(hp t ht).2.2.1) (fun s t hst hs=>(hp t (by omega)).2.2.2 s hst (by omega)) ?_
  rw[←h2]
  refine yZ fun i j hi hj=>?_
  show C i (p j)=qk (fun u=>C i u*(if u=p j then 1 else 0)) r
  rw[ja (j:=p j) (hp j hj).2.1 (fun t _ hne=>by rw[if_neg hne,Int.mul_zero]),if_pos rfl,Int.mul_one]
theorem elim.skip{n:Nat}{A C:Nat→Nat→Int}{r j:Nat}(h:elim n A C r j)(hz:∀i,r≤i→i<n→C i j=0):elim n A C r (j+1):=by
 obtain⟨h1,h2,h3,⟨p,hp⟩,h5⟩:=h
 refine⟨h1,by omega,h3,⟨p,fun t ht=>⟨by have:=(hp t ht).1;omega,(hp t ht).2⟩⟩,fun i k hi hin hk hkn=>?_⟩
 rcases(show k<j∨k=j by omega)with g|rfl
 ·exact h5 i k hi hin g hkn
 ·exact hz i hi hin
def swI(a b i:Nat):Nat:=if i=a then b else if i=b then a else i
theorem aui{n:Nat}(hn:n≤4){a r:Nat}(ha:a<n)(hr:r<n)(hne:a≠r)(p q:Int)(hp:p≠0):jK n (fun i j=>if i=a then(if j=a then p else if j=r then-q else 0)else if i=j then 1 else 0)≠0:=by
 rcases(show n=1∨n=2∨n=3∨n=4 by omega)with rfl|rfl|rfl|rfl
 ·omega
 ·rw[anw]
  rcases(show a=0∨a=1 by omega)with rfl|rfl<;>rcases(show r=0∨r=1 by omega)with rfl|rfl<;>first|omega|simp[hp]
 ·rw[anv]
  rcases(show a=0∨a=1∨a=2 by omega)with rfl|rfl|rfl<;>rcases(show r=0∨r=1∨r=2 by omega)with rfl|rfl|rfl<;>first|omega|simp[hp]
 ·rw[aK3]
  rcases(show a=0∨a=1∨a=2∨a=3 by omega)with rfl|rfl|rfl|rfl<;>rcases(show r=0∨r=1∨r=2∨r=3 by omega)with rfl|rfl|rfl|rfl<;>first|omega|simp[hp]
structure elimR(n:Nat)(A C:Nat→Nat→Int)(r j m:Nat):Prop where
 rn:r<n
 rj:r≤j
 jn:j<n
 rm:r<m
 u:∃U:Nat→Nat→Int,jK n U≠0∧∀i k,i<n→k<n→C i k=jg n U A i k
 p:∃p:Nat→Nat,∀t,t<r→p t<j∧p t<n∧C t (p t)≠0∧∀s,t<s→s<n→C s (p t)=0
 z:∀i k,r≤i→i<n→k<j→k<n→C i k=0
 pv:C r j≠0
 zm:∀i,r<i→i<m→i<n→C i j=0
theorem elim.pivot{n:Nat}{A C:Nat→Nat→Int}{r j:Nat}(h:elim n A C r j)(hr:r<n)(hj:j<n)(hp:C r j≠0):elimR n A C r j (r+1):=
 ⟨hr,h.rj,hj,by omega,h.u,h.p,h.z,hp,fun i h1 h2=>by omega⟩
theorem elimR.done{n:Nat}{A C:Nat→Nat→Int}{r j m:Nat}(h:elimR n A C r j m)(hm:n≤m):elim n A C (r+1) (j+1):=by
 obtain⟨h1,h2,h3,h4,h5,⟨p,hp⟩,h7,h8,h9⟩:=h
 refine⟨by omega,by omega,h5,⟨fun t=>if t=r then j else p t,fun t ht=>?_⟩,fun i k hi hin hk hkn=>?_⟩
 ·dsimp only
  by_cases e:t=r
  ·rw[if_pos e,e]
   exact⟨by omega,h3,h8,fun s hs hsn=>h9 s hs (by omega) hsn⟩
  ·rw[if_neg e]
   obtain⟨a,b,c,d⟩:=hp t (by omega)
   exact⟨by omega,b,c,d⟩
 ·rcases(show k<j∨k=j by omega)with g|rfl
  ·exact h7 i k (by omega) hin g hkn
  ·exact h9 i (by omega) (by omega) hin
theorem elimR.step{n:Nat}(hn:n≤4){A C C':Nat→Nat→Int}{r j m:Nat}(h:elimR n A C r j m)(hm:m<n)(h1:∀i k,i<n→k<n→i≠m→C' i k=C i k)(h2:∀k,k<n→C' m k=C m k*C r j-C r k*C m j):elimR n A C' r j (m+1):=by
 obtain⟨g1,g2,g3,g4,⟨U,hU,hC⟩,⟨p,hp⟩,g7,g8,g9⟩:=h
 refine⟨g1,g2,g3,by omega,⟨jg n (fun i k=>if i=m then(if k=m then C r j else if k=r then-C m j else 0)else if i=k then 1 else 0) U,?_,fun i k hi hk=>?_⟩,⟨p,fun t ht=>?_⟩,fun i k hi hin hk hkn=>?_,?_,fun i hi him hin=>?_⟩
 ·rw[JO hn]
  intro e
  rcases Int.mul_eq_zero.1 e with e|e
  ·exact aui hn hm g1 (by omega) (C r j) (C m j) g8 e
  ·exact hU e
 ·rw[Zh]
  show C' i k=qk (fun t=>(if i=m then(if t=m then C r j else if t=r then-C m j else 0)else if i=t then 1 else 0)*jg n U A t k) n
  by_cases e:i=m
  ·subst e
   have e2:qk (fun t=>(if i=i then(if t=i then C r j else if t=r then-C i j else 0)else if i=t then 1 else 0)*jg n U A t k) n=qk (fun t=>(if t=i then C r j*C i k else 0)+(if t=r then-C i j*C r k else 0)) n:=qu fun t ht=>by
    rw[if_pos rfl,←hC t k ht hk]
    by_cases a:t=i
    ·rw[if_pos a,if_pos a,if_neg (show ¬t=r by omega),a,Int.add_zero]
    ·rw[if_neg a,if_neg a]
     by_cases b:t=r
     ·rw[if_pos b,if_pos b,b,Int.zero_add]
     ·rw[if_neg b,if_neg b,Int.zero_mul,Int.add_zero]
   rw[e2,yg,ja (j:=i) hi (fun t _ hne=>if_neg hne),ja (j:=r) g1 (fun t _ hne=>if_neg hne),if_pos rfl,if_pos rfl,h2 k hk,Int.mul_comm (C i k),Int.neg_mul,Int.mul_comm (C r k)]
   omega
  ·rw[ja (j:=i) hi (fun t _ hne=>by rw[if_neg e,if_neg (fun h=>hne h.symm),Int.zero_mul]),if_neg e,if_pos rfl,Int.one_mul,h1 i k hi hk e]
   exact hC i k hi hk
 ·obtain⟨a,b,c,d⟩:=hp t ht
  refine⟨a,b,?_,fun s hts hsn=>?_⟩
  ·rw[h1 t (p t) (by omega) b (by omega)];exact c
  ·by_cases e:s=m
   ·rw[e,h2 _ b,d m (by omega) hm,d r (by omega) g1];simp
   ·rw[h1 s _ hsn b e];exact d s hts hsn
 ·by_cases e:i=m
  ·rw[e,h2 k hkn,g7 m k (by omega) hm hk hkn,g7 r k (by omega) g1 hk hkn];simp
  ·rw[h1 i k hin hkn e];exact g7 i k hi hin hk hkn
 ·rw[h1 r j g1 g3 (by omega)];exact g8
 ·by_cases e:i=m
  ·rw[e,h2 j g3,Int.mul_comm];omega
  ·rw[h1 i j hin g3 e];exact g9 i hi (by omega) hin
end Go.Ab
namespace Go.Ab
/-! ### Sums of powers of a matrix,at one scale-/
def p2(k:Nat):Int:=2^k
theorem zv(a b:Nat):p2 (a+b)=p2 a*p2 b:=Int.pow_add 2 a b
theorem qX(a:Nat):0<p2 a:=Int.pow_pos (by omega)
theorem QP{a b c:Nat}(h:a=b+c):p2 a=p2 b*p2 c:=by rw[h,zv]
theorem Ym(f:Nat→Int):∀k,qk f (k+1)=f 0+qk (fun t=>f (t+1)) k
 |0=>by simp[qk]
 |k+1=>by
  have:=Ym f k
  rw[qk,this,qk]
  omega
def bn3(n:Nat)(P:Nat→Int)(A:Nat→Nat→Int)(m i j:Nat):Int:=qk (fun t=>P t*z8 n A t i j*p2 (40000-3000*(t+1))) m
end Go.Ab
namespace Go.Ab
open Go Go.Proofs
/-! ### What polynomials of a matrix are worth-/
end Go.Ab
namespace Go.Ab
open Go Go.Proofs
/-! ### What rounded quotients are worth-/
theorem aKx(s:Bool)(a b:Nat)(hb:0<b):(s=false→rq s a b 3*b≤a)∧(s=true→a≤rq s a b 3*b)∧(s=false→a≤rq s a b 2*b)∧(s=true→rq s a b 2*b≤a):=by
 have h1:=Nat.div_add_mod a b
 have h2:=Nat.mod_lt a hb
 have h3:a/b*b=b*(a/b):=Nat.mul_comm _ _
 have h4:(a/b+1)*b=b*(a/b)+b:=by rw[Nat.add_mul,Nat.one_mul,Nat.mul_comm]
 unfold rq rup
 by_cases h:a % b=0
 ·simp only[if_pos h];refine⟨fun _=>?_,fun _=>?_,fun _=>?_,fun _=>?_⟩<;>omega
 ·simp only[if_neg h]
  cases s
  ·refine⟨fun _=>?_,(fun h=>by cases h),fun _=>?_,(fun h=>by cases h)⟩<;>simp<;>omega
  ·refine⟨fun h=>(by cases h),fun _=>?_,fun h=>(by cases h),fun _=>?_⟩<;>simp<;>omega
theorem bhV(s:Bool)(m:Nat):sv s m=sv s 1*(m:Int):=by cases s<;>simp[sv]
theorem Xe{x y:ExV}{low mode:Int}{Kx Ky Kz:Nat}(hy0:y.m≠0)(hx: -(Kx:Int)≤x.e)(hy: -(Ky:Int)≤y.e)(hz: -(Kz:Int)≤low):
  ∃(a b:Nat) (f:Int),0<b∧0<f∧(x.over y low mode).val Kz*y.val Ky*p2 Kx=sv x.s 1*((rq (x.s != y.s) a b mode*b:Nat)*f)∧x.val Kx*p2 (Ky+Kz)=sv x.s 1*(a*f)∧((y.val Ky).natAbs:Int)*p2 ((low+Kz).toNat+Kx)=b*f:=by
 obtain⟨k,hk⟩:∃k,k=x.e-y.e-low:=⟨_,rfl⟩
 have hz':(x.over y low mode).val Kz=sv (x.s != y.s) (rq (x.s != y.s) (ovA x.m k) (ovA y.m (-k)) mode)*p2 (low+Kz).toNat:=by
  rw[hk]
  show dv Kz ((x.s != y.s)&&decide (ovQ (x.s != y.s) x.m x.e y.m y.e low mode≠0)) (ovQ (x.s != y.s) x.m x.e y.m y.e low mode) low=_
  rw[abN];rfl
 have hyv:y.val Ky=sv y.s y.m*p2 (y.e+Ky).toNat:=rfl
 have hxv:x.val Kx=sv x.s x.m*p2 (x.e+Kx).toNat:=rfl
 have hb:0<ovA y.m (-k):=Nat.mul_pos (Nat.pos_of_ne_zero hy0) (Nat.pow_pos (by omega))
 generalize hq:rq (x.s != y.s) (ovA x.m k) (ovA y.m (-k)) mode=q at*
 obtain⟨g,hg1,hg2⟩:∃g:Nat,(low+Kz).toNat+(y.e+Ky).toNat+Kx=(-k).toNat+g∧(x.e+Kx).toNat+(Ky+Kz)=k.toNat+g:=by
  refine⟨min ((low+Kz).toNat+(y.e+Ky).toNat+Kx) ((x.e+Kx).toNat+(Ky+Kz)),?_,?_⟩<;>omega
 have ea:((ovA x.m k:Nat):Int)=x.m*p2 k.toNat:=by unfold ovA p2;rw[Int.natCast_mul,Int.natCast_pow];rfl
 have eb:((ovA y.m (-k):Nat):Int)=y.m*p2 (-k).toNat:=by unfold ovA p2;rw[Int.natCast_mul,Int.natCast_pow];rfl
 refine⟨ovA x.m k,ovA y.m (-k),p2 g,hb,qX g,?_,?_,?_⟩
 ·rw[hq,hz',hyv,Int.natCast_mul,eb]
  have e1:p2 (low+Kz).toNat*p2 (y.e+Ky).toNat*p2 Kx=p2 (-k).toNat*p2 g:=by rw[←zv,←zv,hg1,zv]
  have e2:sv (x.s != y.s) q*sv y.s y.m=sv x.s 1*((q:Int)*y.m):=by
   cases x.s<;>cases y.s<;>(simp[sv];try grind)
  calc sv (x.s != y.s) q*p2 (low+Kz).toNat*(sv y.s y.m*p2 (y.e+Ky).toNat)*p2 Kx=(sv (x.s != y.s) q*sv y.s y.m)*(p2 (low+Kz).toNat*p2 (y.e+Ky).toNat*p2 Kx):=by grind
   _=_:=by rw[e1,e2];grind
 ·rw[hxv,ea,bhV x.s x.m]
  have e1:p2 (x.e+Kx).toNat*p2 (Ky+Kz)=p2 k.toNat*p2 g:=by rw[←zv,hg2,zv]
  calc sv x.s 1*(x.m:Int)*p2 (x.e+Kx).toNat*p2 (Ky+Kz)=sv x.s 1*(x.m:Int)*(p2 (x.e+Kx).toNat*p2 (Ky+Kz)):=by rw[Int.mul_assoc]
   _=_:=by rw[e1];grind
 ·have e0:((y.val Ky).natAbs:Int)=y.m*p2 (y.e+Ky).toNat:=by
   have hp:=qX (y.e+Ky).toNat
   rw[hyv,Int.natAbs_mul,Yl,Int.natCast_mul,show(((p2 (y.e+Ky).toNat).natAbs:Nat):Int)=p2 (y.e+Ky).toNat by omega]
  rw[e0,eb,zv]
  have e1:p2 (y.e+Ky).toNat*(p2 (low+Kz).toNat*p2 Kx)=p2 (-k).toNat*p2 g:=by rw[←zv,←zv,←zv,←hg1];exact congrArg p2 (by omega)
  calc (y.m:Int)*p2 (y.e+Ky).toNat*(p2 (low+Kz).toNat*p2 Kx)=(y.m:Int)*(p2 (y.e+Ky).toNat*(p2 (low+Kz).toNat*p2 Kx)):=by rw[Int.mul_assoc]
   _=_:=by rw[e1];grind
theorem aGU{x y:ExV}{low:Int}{Kx Ky Kz:Nat}(hy0:y.m≠0)(hx: -(Kx:Int)≤x.e)(hy: -(Ky:Int)≤y.e)(hz: -(Kz:Int)≤low):
  (y.s=false→(x.over y low 3).val Kz*y.val Ky*p2 Kx≤x.val Kx*p2 (Ky+Kz)∧x.val Kx*p2 (Ky+Kz)≤(x.over y low 2).val Kz*y.val Ky*p2 Kx)∧
  (y.s=true→x.val Kx*p2 (Ky+Kz)≤(x.over y low 3).val Kz*y.val Ky*p2 Kx∧(x.over y low 2).val Kz*y.val Ky*p2 Kx≤x.val Kx*p2 (Ky+Kz)):=by
 obtain⟨a,b,f,hb,hf,e1,e2,e3⟩:=Xe (mode:=3) hy0 hx hy hz
 obtain⟨a',b',f',hb',hf',e1',e2',e3'⟩:=Xe (mode:=2) hy0 hx hy hz
 obtain⟨h1,h2, -, -⟩:=aKx (x.s != y.s) a b hb
 obtain⟨-, -,h3,h4⟩:=aKx (x.s != y.s) a' b' hb'
 rw[e1,e1']
 have m1:∀p q:Nat,p≤q→(p:Int)*f≤q*f:=fun p q h=>Int.mul_le_mul_of_nonneg_right (by omega) (by omega)
 have m2:∀p q:Nat,p≤q→(p:Int)*f'≤q*f':=fun p q h=>Int.mul_le_mul_of_nonneg_right (by omega) (by omega)
 generalize rq (x.s != y.s) a b 3*b=q at*
 generalize rq (x.s != y.s) a' b' 2*b'=q' at*
 cases hxs:x.s<;>cases hys:y.s<;>rw[hxs,hys]at h1 h2 h3 h4<;>rw[hxs]at e2 e2'<;>simp only[sv]at* <;>refine⟨fun h=>?_,fun h=>?_⟩<;>first|(cases h;done)|skip
 ·have:=m1 _ _ (h1 rfl);have:=m2 _ _ (h3 rfl)
  constructor
  ·rw[e2];simp;omega
  ·rw[e2'];simp;omega
 ·have:=m1 _ _ (h2 rfl);have:=m2 _ _ (h4 rfl)
  constructor
  ·rw[e2];simp;omega
  ·rw[e2'];simp;omega
 ·have:=m1 _ _ (h2 rfl);have:=m2 _ _ (h4 rfl)
  constructor
  ·rw[e2];simp;omega
  ·rw[e2'];simp;omega
 ·have:=m1 _ _ (h1 rfl);have:=m2 _ _ (h3 rfl)
  constructor
  ·rw[e2];simp;omega
  ·rw[e2'];simp;omega
end Go.Ab
namespace Go.Ab
theorem afN{a b c d x y m M:Int}(h1:a≤x)(h2:x≤b)(h3:c≤y)(h4:y≤d)(m1:m≤a*c)(m2:m≤a*d)(m3:m≤b*c)(m4:m≤b*d)(M1:a*c≤M)(M2:a*d≤M)(M3:b*c≤M)(M4:b*d≤M):m≤x*y∧x*y≤M:=by
 have key:∀e:Int,(a*e≤x*e∧x*e≤b*e)∨(b*e≤x*e∧x*e≤a*e):=fun e=>by
  rcases Int.le_total 0 e with h|h
  ·exact .inl ⟨Int.mul_le_mul_of_nonneg_right h1 h,Int.mul_le_mul_of_nonneg_right h2 h⟩
  ·exact .inr ⟨Int.mul_le_mul_of_nonpos_right h2 h,Int.mul_le_mul_of_nonpos_right h1 h⟩
 have kc:=key c
 have kd:=key d
 have ky:(x*c≤x*y∧x*y≤x*d)∨(x*d≤x*y∧x*y≤x*c):=by
  rcases Int.le_total 0 x with h|h
  ·exact .inl ⟨Int.mul_le_mul_of_nonneg_left h3 h,Int.mul_le_mul_of_nonneg_left h4 h⟩
  ·exact .inr ⟨Int.mul_le_mul_of_nonpos_left h h4,Int.mul_le_mul_of_nonpos_left h h3⟩
 omega
end Go.Ab
namespace Go.Ab
open Go Go.Proofs
/-! ### Rational points of intervals-/
theorem abx{K:Nat}:∀(l:List ExV) (m:ExV), -(K:Int)≤m.e→eK K l→(l.foldl zw m).val K≤m.val K∧(∀x∈l,(l.foldl zw m).val K≤x.val K)∧ -(K:Int)≤(l.foldl zw m).e
 | [],m,hm,_=>⟨Int.le_refl _,(fun x hx=>by cases hx),hm⟩
 |y::l,m,hm,hl=>by
  have hy:=hl y (List.mem_cons_self ..)
  have hl':eK K l:=fun x hx=>hl x (List.mem_cons_of_mem _ hx)
  have h1:(zw m y).val K≤m.val K∧(zw m y).val K≤y.val K∧ -(K:Int)≤(zw m y).e:=by
   rcases Int.lt_or_le (y.val K) (m.val K)with g|g
   ·have e:zw m y=y:=by
     unfold zw
     rw[QF hy hm,if_pos (by unfold zD;rw[if_pos g];decide)]
    rw[e];exact⟨Int.le_of_lt g,Int.le_refl _,hy⟩
   ·have e:zw m y=m:=by
     unfold zw
     rw[QF hy hm,if_neg (by unfold zD;rw[if_neg (by omega)];split<;>omega)]
    rw[e];exact⟨Int.le_refl _,g,hm⟩
  obtain⟨g1,g2,g3⟩:=abx l (zw m y) h1.2.2 hl'
  refine⟨Int.le_trans g1 h1.1,fun x hx=>?_,g3⟩
  rcases List.mem_cons.1 hx with rfl|hx
  ·exact Int.le_trans g1 h1.2.1
  ·exact g2 x hx
theorem ahc{K:Nat}:∀(l:List ExV) (m:ExV), -(K:Int)≤m.e→eK K l→m.val K≤(l.foldl zV m).val K∧(∀x∈l,x.val K≤(l.foldl zV m).val K)∧ -(K:Int)≤(l.foldl zV m).e
 | [],m,hm,_=>⟨Int.le_refl _,(fun x hx=>by cases hx),hm⟩
 |y::l,m,hm,hl=>by
  have hy:=hl y (List.mem_cons_self ..)
  have hl':eK K l:=fun x hx=>hl x (List.mem_cons_of_mem _ hx)
  have h1:m.val K≤(zV m y).val K∧y.val K≤(zV m y).val K∧ -(K:Int)≤(zV m y).e:=by
   rcases Int.lt_or_le (m.val K) (y.val K)with g|g
   ·have e:zV m y=y:=by
     unfold zV
     rw[QF hy hm,if_pos (by unfold zD;rw[if_neg (by omega),if_pos g];decide)]
    rw[e];exact⟨Int.le_of_lt g,Int.le_refl _,hy⟩
   ·have e:zV m y=m:=by
     unfold zV
     rw[QF hy hm,if_neg (by unfold zD;split<;>(try split)<;>omega)]
    rw[e];exact⟨Int.le_refl _,g,hm⟩
  obtain⟨g1,g2,g3⟩:=ahc l (zV m y) h1.2.2 hl'
  refine⟨Int.le_trans h1.1 g1,fun x hx=>?_,g3⟩
  rcases List.mem_cons.1 hx with rfl|hx
  ·exact Int.le_trans h1.2.1 g1
  ·exact g2 x hx
theorem Zj{K:Nat}{l:List ExV}(h:eK K l):(∀x∈l,(qM l).val K≤x.val K)∧ -(K:Int)≤(qM l).e:=by
 cases l with
 |nil=>exact⟨(fun x hx=>by cases hx),by show-(K:Int)≤0;omega⟩
 |cons y l=>
  obtain⟨g1,g2,g3⟩:=abx (K:=K) l y (h y (List.mem_cons_self ..)) fun x hx=>h x (List.mem_cons_of_mem _ hx)
  refine⟨fun x hx=>?_,g3⟩
  rcases List.mem_cons.1 hx with rfl|hx
  ·exact g1
  ·exact g2 x hx
theorem Jv{K:Nat}{l:List ExV}(h:eK K l):(∀x∈l,x.val K≤(ze l).val K)∧ -(K:Int)≤(ze l).e:=by
 cases l with
 |nil=>exact⟨(fun x hx=>by cases hx),by show-(K:Int)≤0;omega⟩
 |cons y l=>
  obtain⟨g1,g2,g3⟩:=ahc (K:=K) l y (h y (List.mem_cons_self ..)) fun x hx=>h x (List.mem_cons_of_mem _ hx)
  refine⟨fun x hx=>?_,g3⟩
  rcases List.mem_cons.1 hx with rfl|hx
  ·exact g1
  ·exact g2 x hx
def SpV.eK(K:Nat)(s:SpV):Prop:= -(K:Int)≤s.lo.e∧ -(K:Int)≤s.hi.e
def inS(K:Nat)(s:SpV)(N D:Int):Prop:=s.lo.val K*D≤N∧N≤s.hi.val K*D
theorem aWl{K:Nat}{x:ExV}{D:Int}:inS K ⟨x,x⟩ (x.val K*D) D:=⟨Int.le_refl _,Int.le_refl _⟩
theorem times_eK{K K':Nat}{s t:SpV}(hs:s.eK K)(ht:t.eK K'):eK (K+K') (qZ ExV.times s t):=fun x hx=>by
 obtain⟨a,b⟩:=hs
 obtain⟨c,d⟩:=ht
 simp only[qZ,List.mem_cons,List.not_mem_nil,or_false]at hx
 rcases hx with rfl|rfl|rfl|rfl
 ·show _≤s.lo.e+t.lo.e;omega
 ·show _≤s.lo.e+t.hi.e;omega
 ·show _≤s.hi.e+t.lo.e;omega
 ·show _≤s.hi.e+t.hi.e;omega
theorem SpV.times_eK{K K':Nat}{s t:SpV}(hs:s.eK K)(ht:t.eK K'):(s.times t).eK (K+K'):=⟨(Zj (Go.Ab.times_eK hs ht)).2,(Jv (Go.Ab.times_eK hs ht)).2⟩
theorem atB{K K':Nat}{s t:SpV}{N D N' D':Int}(hs:s.eK K)(ht:t.eK K')(hD:0<D)(hD':0<D')(h:inS K s N D)(h':inS K' t N' D'):inS (K+K') (s.times t) (N*N') (D*D'):=by
 have he:=Go.Ab.times_eK hs ht
 obtain⟨l1, -⟩:=Zj he
 obtain⟨m1, -⟩:=Jv he
 have hDD:0≤D*D':=Int.le_of_lt (Int.mul_pos hD hD')
 obtain⟨a,b⟩:=hs
 obtain⟨c,d⟩:=ht
 have f:∀x y:ExV, -(K:Int)≤x.e→ -(K':Int)≤y.e→(x.times y).val (K+K')*(D*D')=(x.val K*D)*(y.val K'*D'):=fun x y hx hy=>by
  rw[yO hx hy];grind
 have L:∀x∈qZ ExV.times s t,(qM (qZ ExV.times s t)).val (K+K')*(D*D')≤x.val (K+K')*(D*D'):=fun x hx=>Int.mul_le_mul_of_nonneg_right (l1 x hx) hDD
 have M:∀x∈qZ ExV.times s t,x.val (K+K')*(D*D')≤(ze (qZ ExV.times s t)).val (K+K')*(D*D'):=fun x hx=>Int.mul_le_mul_of_nonneg_right (m1 x hx) hDD
 have i1:s.lo.times t.lo∈qZ ExV.times s t:=by simp[qZ]
 have i2:s.lo.times t.hi∈qZ ExV.times s t:=by simp[qZ]
 have i3:s.hi.times t.lo∈qZ ExV.times s t:=by simp[qZ]
 have i4:s.hi.times t.hi∈qZ ExV.times s t:=by simp[qZ]
 have L1:=L _ i1
 have L2:=L _ i2
 have L3:=L _ i3
 have L4:=L _ i4
 have M1:=M _ i1
 have M2:=M _ i2
 have M3:=M _ i3
 have M4:=M _ i4
 rw[f _ _ a c]at L1 M1
 rw[f _ _ a d]at L2 M2
 rw[f _ _ b c]at L3 M3
 rw[f _ _ b d]at L4 M4
 exact afN h.1 h.2 h'.1 h'.2 L1 L2 L3 L4 M1 M2 M3 M4
theorem SpV.plus_eK{K:Nat}{s t:SpV}(hs:s.eK K)(ht:t.eK K):(s.plus t).eK K:=⟨Jo hs.1 ht.1,Jo hs.2 ht.2⟩
theorem ahl{K:Nat}{s t:SpV}{N N' D:Int}(hs:s.eK K)(ht:t.eK K)(h:inS K s N D)(h':inS K t N' D):inS K (s.plus t) (N+N') D:=by
 obtain⟨a,b⟩:=h
 obtain⟨c,d⟩:=h'
 constructor
 ·show(s.lo.plus t.lo).val K*D≤_
  rw[jF hs.1 ht.1,Int.add_mul];omega
 ·show _≤(s.hi.plus t.hi).val K*D
  rw[jF hs.2 ht.2,Int.add_mul];omega
theorem aWj{K j:Nat}{s:SpV}{N D:Int}(hs:s.eK K)(h:inS K s N D):inS (K+j) s (N*p2 j) D:=by
 have hp:=qX j
 obtain⟨a,b⟩:=h
 have e1:s.lo.val (K+j)=s.lo.val K*p2 j:=Yk hs.1
 have e2:s.hi.val (K+j)=s.hi.val K*p2 j:=Yk hs.2
 constructor
 ·have:=Int.mul_le_mul_of_nonneg_right a (Int.le_of_lt hp)
  rw[e1,Int.mul_right_comm];exact this
 ·have:=Int.mul_le_mul_of_nonneg_right b (Int.le_of_lt hp)
  rw[e2,Int.mul_right_comm];exact this
theorem aRg{K:Nat}{s:SpV}{N D:Int}(hs:s.eK K):inS K s.can N D↔inS K s N D:=by
 unfold inS
 rw[show s.can.lo=s.lo.can from rfl,show s.can.hi=s.hi.can from rfl,QG hs.1,QG hs.2]
theorem SpV.can_eK{K:Nat}{s:SpV}(hs:s.eK K):s.can.eK K:=⟨bbg hs.1 (by omega),bbg hs.2 (by omega)⟩
theorem aKO{K:Nat}{s:SpV}{N D:Int}(hD:0<D)(h:inS K s N D):s.lo.val K≤s.hi.val K:=Int.le_of_mul_le_mul_right (Int.le_trans h.1 h.2) hD
theorem acu{K j:Nat}{x y:ExV}(hx: -(K:Int)≤x.e)(hy: -(K:Int)≤y.e):x.val K≤y.val K↔x.val (K+j)≤y.val (K+j):=by
 rw[Yk hx,Yk hy]
 have hp:(0:Int)<2^j:=qX j
 exact⟨fun h=>Int.mul_le_mul_of_nonneg_right h (Int.le_of_lt hp),fun h=>Int.le_of_mul_le_mul_right h hp⟩
theorem asn{K:Nat}{s:SpV}(hK:3000≤K)(hs:s.eK K)(h:s.lo.val K≤s.hi.val K):s.tel.ok=true:=by
 unfold SpV.tel
 split
 ·rename_i hf
  have hf:(s.lo.fit&&s.hi.fit)=true:=hf
  rw[Bool.and_eq_true]at hf
  have o1:=ahH hf.1
  have o2:=ahH hf.2
  show(s.lo.can.ok&&(s.hi.can.ok&&decide (s.lo.can.val 3000≤s.hi.can.val 3000)))=true
  rw[o1,o2,Bool.true_and,Bool.true_and]
  refine decide_eq_true ((acu (j:=K-3000) (jS o1).1.1 (jS o2).1.1).2 ?_)
  rw[show 3000+(K-3000)=K by omega,QG hs.1,QG hs.2]
  exact h
 ·decide+kernel
theorem Y2{s:SpV}(h:s.ok=true):s.eK 3000∧s.lo.val 3000≤s.hi.val 3000∧s.lo.ok=true∧s.hi.ok=true:=by
 have h:(s.lo.ok&&(s.hi.ok&&decide (s.lo.val 3000≤s.hi.val 3000)))=true:=h
 simp only[Bool.and_eq_true,decide_eq_true_eq]at h
 exact⟨⟨(jS h.1).1.1,(jS h.2.1).1.1⟩,h.2.2,h.1,h.2.1⟩
end Go.Ab
namespace Go.Ab
open Go Go.Proofs
/-! ### Matrices of intervals-/
structure imatV(n:Nat)(S:List SpV):Prop where
 n1:1≤n
 n4:n≤4
 len:S.length=n*n
 ok:∀s∈S,s.ok=true
theorem imatV.l16{n:Nat}{S:List SpV}(h:imatV n S):S.length≤16:=by rw[h.len];exact j7 h.n4
theorem imatV.bd{n:Nat}{S:List SpV}(h:imatV n S):sbd (-3000) 4600 S:=fun s hs=>afB (h.ok s hs)
def aKJ(k:Int)(M:List IvV):Bool:=(decide (1≤k)&&decide (k≤4))&&(decide ((M.length:Int)=k*k)&&M.all ivB)
theorem agy(n:Int)(l:List IvV)(hl:l.length≤1000)(hx:∀v∈l,aWf v):Con Tryz.prog 87 true [.ag [.v (.int .i64 n),.sl l.length (qn IvV.cs l)]] [] (isA (.v (.bool (aKJ n l)))):=by
 unfold aKJ
 cases h1:(decide (1≤n)&&decide (n≤4))
 ·rw[Bool.false_and]
  refine Con.of_w (rs:=[.tmp 2]) Tryz.func87 rfl Tryz.ntmps87 rfl ?_
  simp(disch:=omega)only[go_sem]
  refine ql (zt n 1 4) ?_
  simp(disch:=omega)only[go_sem]
  simp(disch:=omega)only[go_sem,h1]
  exact qB
 ·rw[Bool.true_and]
  have h1':1≤n∧n≤4:=by simpa using h1
  have hq:0≤n*n∧n*n≤16:=⟨Int.mul_nonneg (by omega) (by omega),Int.mul_le_mul h1'.2 h1'.2 (by omega) (by omega)⟩
  cases h2:decide ((l.length:Int)=n*n)
  ·rw[Bool.false_and]
   refine Con.of_w (rs:=[.tmp 2]) Tryz.func87 rfl Tryz.ntmps87 rfl ?_
   simp(disch:=omega)only[go_sem]
   refine ql (zt n 1 4) ?_
   simp(disch:=omega)only[go_sem]
   simp(disch:=omega)only[go_sem,h1,h2]
   exact qB
  ·rw[Bool.true_and]
   refine Con.of_w (rs:=[.tmp 2]) Tryz.func87 rfl Tryz.ntmps87 rfl ?_
   simp(disch:=omega)only[go_sem]
   refine ql (zt n 1 4) ?_
   simp(disch:=omega)only[go_sem]
   simp(disch:=omega)only[go_sem,h1,h2]
   refine ql (am6 l hl hx) ?_
   simp(disch:=omega)only[go_sem]
   exact qB
theorem aPz(S:List SpV):qn IvV.cs (S.map SpV.iv)=qn SpV.cs S:=by unfold qn;rw[List.map_map];rfl
theorem bix{k:Int}{M:List IvV}(h:aKJ k M=true):∃(n:Nat) (S:List SpV),k=n∧M=S.map SpV.iv∧imatV n S:=by
 simp only[aKJ,Bool.and_eq_true,decide_eq_true_eq,List.all_eq_true]at h
 obtain⟨⟨h1,h2⟩,h3,h4⟩:=h
 obtain⟨n,rfl⟩:=Int.eq_ofNat_of_zero_le (show 0≤k by omega)
 have hm:M=(M.map IvV.sp).map SpV.iv:=by
  rw[List.map_map]
  conv=>lhs;rw[←List.map_id M]
  refine List.map_congr_left fun v hv=>?_
  obtain⟨s,e, -⟩:=aWi (h4 v hv)
  show v=(IvV.sp v).iv
  rw[e]
  show s.iv=SpV.iv ⟨s.lo.dyv.ex,s.hi.dyv.ex⟩
  rw[af4,af4]
 refine⟨n,M.map IvV.sp,rfl,hm,by omega,by omega,?_,fun s hs=>?_⟩
 ·rw[List.length_map];exact_mod_cast h3
 ·obtain⟨v,hv,rfl⟩:=List.mem_map.1 hs
  have hb:=h4 v hv
  obtain⟨s,e,ho⟩:=aWi hb
  rw[e]
  show SpV.ok ⟨s.lo.dyv.ex,s.hi.dyv.ex⟩=true
  rw[af4,af4];exact ho
theorem atD{n:Nat}{S:List SpV}(h:imatV n S):aKJ n (S.map SpV.iv)=true:=by
 unfold aKJ
 simp only[Bool.and_eq_true,decide_eq_true_eq,List.all_eq_true]
 refine⟨⟨by have:=h.n1;omega,by have:=h.n4;omega⟩,by rw[List.length_map,h.len,Int.natCast_mul],fun v hv=>?_⟩
 obtain⟨s,hs,rfl⟩:=List.mem_map.1 hv
 rw[aKN];exact h.ok s hs
theorem atC{n:Nat}{S:List SpV}(h:imatV n S):∀v∈S.map SpV.iv,aWf v:=fun v hv=>by
 obtain⟨s,hs,rfl⟩:=List.mem_map.1 hv
 exact aQ5 (h.ok s hs)
theorem ZF(n:Nat)(S:List SpV)(h:imatV n S):Con Tryz.prog 87 true [.ag [.v (.int .i64 (n)),.sl (S).length (qn SpV.cs (S))]] [] (isA (.v (.bool true))):=by
 have c:=agy n (S.map SpV.iv) (by rw[List.length_map];have:=h.l16;omega) (atC h)
 rw[atD h,aPz,List.length_map]at c
 exact c
set_option maxRecDepth 100000 in
theorem JX(n:Int)(l:List SpV)(hl:l.length≤1000):Con Tryz.prog 81 false [.ag [.v (.int .i64 (n)),.sl (l).length (qn SpV.cs (l))]] [] (isA (.ag [.v (.int .i64 (n)),.sl (l).length (qn SpV.cs (l))])):=by
 refine Con.frzA ?_
 refine Con.of_aw Tryz.func81 rfl Tryz.ntmps81 (by simp) (by simp) (by simp) (W.sound ?_)
 show @W Tryz.prog 25 ⟨_⟩ ⟨fun x σ=>@q8 _ _ _ ⟨_⟩ _ ⟨_⟩ x σ⟩ _ _
 simp(disch:=omega)only[go_sem]
 refine qi (fun i:Nat=>[(10,.sl l.length (qn SpV.cs l)),(11,.v (.int .i64 l.length)),(12,.v (.int .i64 i)),(3,.pt 0 0),(2,.pt 2 0)])
  (fun i=>[(0,.own 0 [.v (.int .i64 n),.rf 1 0 i]),(1,.own 6 (qn SpV.cs (mpT l (id) i))),(2,.own 0 [.v (.int .i64 0),.v (.slice none 0 0)])]) (fun i=>i≤l.length) (fun i=>l.length-i) 0 (by omega)
  ((Le.ghostC 50000000 1 1 6 (zo:=0) (cs:=[.v (.int .i64 n),.v (.slice none 0 0)]) (by simp(disch:=omega)only[go_sem]) rfl (by simp(disch:=omega)only[go_sem])).trans (Le.lst [(0,50000000),(2,40000000)] _ _ rfl (by simp(disch:=omega)only[go_sem]) (by simp(disch:=omega)only[go_sem,yA,Q9,List.set_cons_succ,List.set_cons_zero]))) ?_
 intro i hi
 simp(disch:=omega)only[go_sem]
 refine qg (fun h1=>?_) (fun h1=>?_)
 ·have hi2:i<l.length:=by omega
  have hci:=j8 hi2
  have hcut:=zJ (jb (F:=id) hi)
  have hml:=jb (F:=id) hi
  have hs:=yB (F:=id) sp0 hi2
  generalize l.getD i sp0=x at*
  simp(disch:=omega)only[go_sem,h1,hci]
  refine⟨by omega,by omega,?_⟩
  refine qv rfl [⟨0,[],[]⟩,⟨1,[],[]⟩,⟨2,[1],[]⟩,⟨3,[1],[]⟩,⟨4,[1],[]⟩,⟨5,[],[]⟩,⟨6,[],[]⟩,⟨7,[],[]⟩] (by kernel_rfl) ?_
  simp(disch:=omega)only[go_sem]
  refine qa (Zv x) ?_
  simp(disch:=omega)only[go_sem]
  simp(disch:=omega)only[go_sem,hcut,y7]
  refine⟨⟨by rw[hml];exact Nat.le_refl _,by omega⟩,qb (i+1) [(1,230000000)] (by show i+1≤_;omega) (by show l.length-(i+1)<l.length-i;omega) rfl (by simp(disch:=omega)only[go_sem];try omega) (by simp(disch:=omega)only[go_sem,hs,id_eq])⟩
 ·simp(disch:=omega)only[go_sem,h1]
  obtain rfl:i=l.length:=by omega
  refine qh [(0,1)] [.own 6 (qn SpV.cs (mpT l (id) l.length))] [] [.ag [.v (.int .i64 n),.rf 0 0 l.length]] rfl (by simp(disch:=omega)only[go_sem]) (by simp(disch:=omega)only[go_sem]) (by simp) (by simp) ?_
  show qJ _ 6 _=_
  simp(disch:=omega)only[go_sem,zl,Qv,zJ (l:=l.map (id)) (k:=l.length) (List.length_map ..),List.map_id,zJ (l:=l) (k:=l.length) rfl]
def fN(n:Nat)(l:List SpV):Nat:=if l.all SpV.fit=true then n else 0
def fT(l:List SpV):List SpV:=if l.all SpV.fit=true then l.map SpV.can else []
theorem amY(n:Nat)(l:List SpV)(hl:l.length≤1000)(hb:sbd (-400000) 400000 l):Con Tryz.prog 72 false [.ag [.v (.int .i64 (n)),.sl (l).length (qn SpV.cs (l))]] [] (isA (.tu [.ag [.v (.int .i64 (fN n l)),.sl (fT l).length (qn SpV.cs (fT l))],.v (.bool (l.all SpV.fit))])):=by
 have c:=JW n l hl hb
 unfold fN fT
 cases h:l.all SpV.fit
 ·rw[h,if_neg (by simp)]at c
  rw[if_neg (by simp),if_neg (by simp)]
  exact c
 ·rw[h,if_pos rfl]at c
  rw[if_pos rfl,if_pos rfl,List.length_map]
  exact c
theorem baP{n K:Nat}{l:List SpV}(hK:3000≤K)(h1:1≤n)(h4:n≤4)(hl:l.length=n*n)(he:∀s∈l,s.eK K∧s.lo.val K≤s.hi.val K)(h:l.all SpV.fit=true):fN n l=n∧fT l=l.map SpV.can∧imatV n (l.map SpV.can):=by
 refine⟨if_pos h,if_pos h,h1,h4,by rw[List.length_map];exact hl,fun s hs=>?_⟩
 obtain⟨t,ht,rfl⟩:=List.mem_map.1 hs
 have:=asn hK (he t ht).1 (he t ht).2
 rw[show t.tel=t.can from if_pos (List.all_eq_true.1 h t ht)]at this
 exact this
theorem Qo(n n':Nat)(S S':List SpV)(h:imatV n S)(h':imatV n' S'):Con Tryz.prog 80 true [.ag [.v (.int .i64 (n)),.sl (S).length (qn SpV.cs (S))],.ag [.v (.int .i64 (n')),.sl (S').length (qn SpV.cs (S'))]] [] (isA (.v (.bool (decide (n=n'))))):=by
 refine Con.of_aw Tryz.func80 rfl Tryz.ntmps80 (by simp) (by simp) (by simp) (W.sound ?_)
 show @W Tryz.prog 18 ⟨_⟩ ⟨fun x σ=>@q8 _ _ _ ⟨_⟩ _ ⟨_⟩ x σ⟩ _ _
 simp(disch:=omega)only[go_sem]
 refine ql (ZF n S h) ?_
 simp(disch:=omega)only[go_sem]
 refine ql (ZF n' S' h') ?_
 simp(disch:=omega)only[go_sem]
 refine qz (by simp(disch:=omega)only[go_sem]) (by simp(disch:=omega)only[go_sem]) ⟨?_,rfl,rfl⟩
 show AV.v (.bool _)=AV.v (.bool _)
 congr 2
 exact decide_eq_decide.2 ⟨fun h=>by omega,fun h=>by omega⟩
def bos(k:Int)(M:List IvV)(k':Int)(M':List IvV):Bool:=aKJ k M&&(aKJ k' M'&&decide (k=k'))
theorem amz{n:Nat}{S S':List SpV}(h:imatV n S)(h':imatV n S'):sbd (-6000) 9204 (qC n S S'):=fun x hx=>by
 unfold qC gly at hx
 obtain⟨t,ht,rfl⟩:=List.mem_map.1 hx
 have ht:=List.mem_range.1 ht
 have h0:=h.n1
 have hj:=Nat.mod_lt t (show 0<n by omega)
 have hi:t/n<n:=(Nat.div_lt_iff_lt_mul (by omega)).2 ht
 have:=Y6 (k:=n) hi hj (Nat.le_refl n) h.len h'.len h.bd h'.bd (by omega)
 exact SpV.bd.mono this (by omega) (by have:=h.n4;omega)
theorem XU(n:Nat)(S S':List SpV)(h:imatV n S)(h':imatV n S'):Con Tryz.prog 17 false [.ag [.v (.int .i64 (n)),.sl (S).length (qn SpV.cs (S))],.ag [.v (.int .i64 (n)),.sl (S').length (qn SpV.cs (S'))]] [] (isA (.tu [.ag [.v (.int .i64 (fN n (qC n S S'))),.sl (fT (qC n S S')).length (qn SpV.cs (fT (qC n S S')))],.v (.bool ((qC n S S').all SpV.fit))])):=by
 refine Con.frzA ?_
 have ca:=Qo n n S S' h h'
 rw[decide_eq_true rfl]at ca
 have l1:=h.l16
 have l2:=h'.l16
 have hq:=j7 h.n4
 have co:=jP n S S' h.n4 h.len h'.len (qE h.bd (by omega) (by omega)) (qE h'.bd (by omega) (by omega))
 have cm:=amY n (qC n S S') (by unfold qC;rw[zI];omega) (qE (amz h h') (by omega) (by omega))
 generalize qC n S S'=y at*
 refine Con.of_w (rs:=[.cell 4 30,.tmp 5]) Tryz.func17 rfl Tryz.ntmps17 rfl ?_
 simp(disch:=omega)only[go_sem]
 refine ql (ca) ?_
 simp(disch:=omega)only[go_sem]
 refine qv rfl [⟨0,[],[]⟩,⟨2,[0],[]⟩,⟨1,[2],[]⟩,⟨3,[],[]⟩,⟨4,[],[]⟩,⟨5,[],[]⟩,⟨6,[],[]⟩,⟨7,[],[]⟩,⟨8,[],[]⟩,⟨9,[],[]⟩] (by kernel_rfl) ?_
 simp(disch:=omega)only[go_sem]
 refine qa (JX n S (by omega)) ?_
 simp(disch:=omega)only[go_sem]
 refine qa (JX n S' (by omega)) ?_
 simp(disch:=omega)only[go_sem]
 refine qa (co) ?_
 simp(disch:=omega)only[go_sem]
 refine qa (cm) ?_
 simp(disch:=omega)only[go_sem]
 exact qp
def boj(S:List SpV)(L:List ExV)(k:Nat):Bool:=(List.range k).all fun i=>bnb (S.getD i sp0) (L.getD i ex0)
end Go.Ab
namespace Go.Ab
open Go
section
variable {σ:St}
end
end Go.Ab
namespace Go.Ab
open Go
end Go.Ab
namespace Go.Ab
open Go
section
variable {P:Program}{N:Nat}{Q:Exit→St→Prop}{σ:St}
end
end Go.Ab
namespace Go.Ab
open Go Go.Proofs
/-! ### Drawn matrices of intervals-/
def bob(r:AV):Prop:=∃(n:Int) (l:List IvV),l.length≤16∧(∀v∈l,aWf v)∧r=.ag [.v (.int .i64 n),.sl l.length (qn IvV.cs l)]
section
variable (l:List UInt8)(hl:l.length≤9223372036854775807)(i h:Int)(hi:0≤i∧i≤l.length)
include hl hi
end
def boe(M:List IvV):Prop:=M.length≤16∧∀v∈M,aWf v
end Go.Ab
namespace Go.Ab
open Go Go.Proofs
end Go.Ab
namespace Go.Ab
open Go Go.Proofs
def bk1:ExV:=⟨false,5,1⟩
def boi:SpV:=⟨bk1,bk1⟩
end Go.Ab
namespace Go.Ab
open Go Go.Proofs
/-! ### Points of matrices of intervals-/
def inM(K:Nat)(S:List SpV)(L:List ExV)(k:Nat):Prop:=∀i,i<k→inS K (S.getD i sp0) ((L.getD i ex0).val K) 1
theorem zz{Y:Type}{l:List Y}{f:Y→SpV}{i:Nat}(h:i<l.length)(d:Y):(l.map f).getD i sp0=f (l.getD i d):=by
 rw[List.getD_eq_getElem?_getD,List.getElem?_map,List.getD_eq_getElem?_getD,List.getElem?_eq_getElem h];rfl
theorem aa9{l:List SpV}{i:Nat}(h:i<l.length):l.getD i sp0∈l:=by
 rw[List.getD_eq_getElem?_getD,List.getElem?_eq_getElem h];exact List.getElem_mem _
theorem aKX{l:List ExV}{i:Nat}(h:i<l.length):l.getD i ex0∈l:=by
 rw[List.getD_eq_getElem?_getD,List.getElem?_eq_getElem h];exact List.getElem_mem _
theorem Xr{n:Nat}{g:Nat→Nat→SpV}{k t:Nat}(h:t<k):(gly n g k).getD t sp0=g (t/n) (t % n):=by
 unfold gly
 have r:(List.range k).getD t 0=t:=by rw[List.getD_eq_getElem?_getD,List.getElem?_range h];rfl
 rw[zz (by rw[List.length_range];exact h) 0,r]
theorem imatV.eK{n K:Nat}{S:List SpV}(h:imatV n S)(hK:3000≤K){i:Nat}(hi:i<n*n):(S.getD i sp0).eK K:=by
 have:=(Y2 (h.ok _ (aa9 (by rw[h.len];exact hi)))).1
 exact⟨by have:=this.1;omega,by have:=this.2;omega⟩
theorem ahn{n i:Nat}:i/n*n+i % n=i:=by rw[Nat.mul_comm];exact Nat.div_add_mod i n
end Go.Ab
namespace Go.Ab
open Go
/-! ### Rows of which some cells groups are still nought-/
def ocs:Option ExV→List AV
 |none=>z3
 |some x=>x.cs
theorem biq:∀x,(ocs x).length=3:=fun x=>by cases x<;>rfl
theorem aQp{ρ:Nat→Nat}{l:List (Option ExV)}:zP ρ (qn ocs l)=qn ocs l:=Zd fun x=>by
 cases x with
 |none=>exact ID rfl
 |some x=>exact at1 x
theorem aQr{p:Nat→Prop}{l:List (Option ExV)}:AllL p (qn ocs l)=True:=eq_true (Ze fun x=>by
 cases x with
 |none=>simp[ocs,z3,AllL,AV.All]
 |some x=>exact at3 x)
theorem aQq{l:List (Option ExV)}:(qn ocs l).length=l.length*3:=yR biq
attribute [go_sem] aQp aQr aQq
end Go.Ab
namespace Go.Ab
open Go Go.Proofs
/-! ### Widened,rounded and divided matrices of intervals-/
end Go.Ab
namespace Go.Ab
open Go Go.Proofs
def aHq(s t:SpV):Bool:=decide ((yk s t).lo.val 3000≤(yk s t).hi.val 3000)
theorem J1(n:Nat)(S S':List SpV)(h:imatV n S)(h':imatV n S')(hm:∀i,i<n*n→aHq (S.getD i sp0) (S'.getD i sp0)=true):Con Tryz.prog 18 true [.ag [.v (.int .i64 (n)),.sl (S).length (qn SpV.cs (S))],.ag [.v (.int .i64 (n)),.sl (S').length (qn SpV.cs (S'))]] [] (isA (.v (.bool true))):=by
 have l1:=h.l16
 have l2:=h'.l16
 have hS:=h.len
 have hS':=h'.len
 have ca:=Qo n n S S' h h'
 rw[decide_eq_true rfl]at ca
 refine Con.of_w (rs:=[.tmp 4]) Tryz.func18 rfl Tryz.ntmps18 rfl ?_
 simp(disch:=omega)only[go_sem]
 refine ql (ca) ?_
 simp(disch:=omega)only[go_sem]
 refine qi (fun i:Nat=>[(2,.pt 2 0),(3,.pt 3 0),(4,.v (.bool false)),(14,.sl S.length (qn SpV.cs S)),(15,.v (.int .i64 S.length)),(16,.v (.int .i64 i))])
  (fun _=>[(2,.own 0 [.v (.int .i64 n),.sl S.length (qn SpV.cs S)]),(3,.own 0 [.v (.int .i64 n),.sl S'.length (qn SpV.cs S')])]) (fun i=>i≤S.length) (fun i=>S.length-i) 0 (by omega)
  (Le.lst [(2,40000000),(3,50000000)] _ _ rfl (by simp(disch:=omega)only[go_sem]) (by simp(disch:=omega)only[go_sem])) ?_
 intro i hi
 simp(disch:=omega)only[go_sem]
 refine qg (fun h1=>?_) (fun h1=>?_)
 ·have hi2:i<S.length:=by omega
  have hci:=j8 (l:=S) (i:=i) hi2
  have hcx:=j8 (l:=S') (i:=i) (by omega)
  have os:=h.ok _ (aa9 (l:=S) hi2)
  have ox:=h'.ok _ (aa9 (l:=S') (i:=i) (by omega))
  have ch:=amI (S.getD i sp0) (S'.getD i sp0) os ox
  have hmi:=hm i (by omega)
  change decide ((yk (S.getD i sp0) (S'.getD i sp0)).lo.val 3000≤(yk (S.getD i sp0) (S'.getD i sp0)).hi.val 3000)=true at hmi
  rw[hmi]at ch
  generalize yk (S.getD i sp0) (S'.getD i sp0)=u at*
  generalize S.getD i sp0=s at*
  generalize S'.getD i sp0=x at*
  simp(disch:=omega)only[go_sem,h1,hci]
  refine⟨by omega,by omega,?_⟩
  refine qv rfl [⟨0,[],[]⟩,⟨2,[0],[]⟩,⟨3,[0],[]⟩,⟨4,[0,3],[]⟩,⟨5,[0],[]⟩,⟨6,[0],[]⟩,⟨12,[0,3,6],[]⟩,⟨1,[3,6],[90000000]⟩,⟨7,[],[90000000]⟩,⟨8,[],[90000000]⟩,⟨9,[],[90000000]⟩,⟨10,[],[90000000]⟩,⟨11,[],[90000000]⟩,⟨13,[],[]⟩,⟨14,[],[]⟩] (by kernel_rfl) ?_
  simp(disch:=omega)only[go_sem,hcx]
  refine⟨by omega,by omega,?_⟩
  refine qa (Zv s) ?_
  simp(disch:=omega)only[go_sem]
  refine qa (Zv x) ?_
  simp(disch:=omega)only[go_sem]
  refine qa (ch) ?_
  simp(disch:=omega)only[go_sem]
  exact qb (i+1) [] (by show i+1≤_;omega) (by show S.length-(i+1)<S.length-i;omega) rfl (by simp(disch:=omega)only[go_sem];try omega) (by simp(disch:=omega)only[go_sem])
 ·simp(disch:=omega)only[go_sem,h1]
  exact qB
def dgO(n:Nat)(y:ExV):Nat→List (Option ExV)
 |0=>List.replicate (n*n) none
 |k+1=>(dgO n y k).set (k*n+k) (some y)
def dgE(n:Nat)(y:ExV):List ExV:=(dgO n y n).map fun o=>o.getD ex0
end Go.Ab
namespace Go.Ab
open Go Go.Proofs
def bk6(s:SpV):ExV:=s.hi.plus s.lo.neg
end Go.Ab
namespace Go.Ab
open Go Go.Proofs
def ex3:ExV:=⟨false,3,0⟩
end Go.Ab
namespace Go.Ab
open Go Go.Proofs
/-! ### What is held of the exponential of any matrix-/
theorem aQf{s:Bool}{m1:Nat}{e1:Int}{m2:Nat}{e2 low mode:Int}(h0:m2≠0):(bl (ovQ s m1 e1 m2 e2 low mode):Int)≤(if(bl m1:Int)+(e1-e2-low)≤0 then 0 else(bl m1:Int)+(e1-e2-low))+1:=by
 have h1:=jC (aPx s (ovA m1 (e1-e2-low)) (ovA m2 (-(e1-e2-low))) mode)
 have h2:=agE (ovA m1 (e1-e2-low)/ovA m2 (-(e1-e2-low)))
 have h3:(bl (ovA m1 (e1-e2-low)/ovA m2 (-(e1-e2-low))):Int)≤if(bl m1:Int)+(e1-e2-low)≤0 then 0 else(bl m1:Int)+(e1-e2-low):=by
  rcases Int.le_total 0 (e1-e2-low)with g|g
  ·have a:=Z5 (ovA m1 (e1-e2-low)) (ovA m2 (-(e1-e2-low)))
   have b:=Yj m1 (e1-e2-low).toNat
   have c:(bl (ovA m1 (e1-e2-low)):Int)≤bl m1+(e1-e2-low):=by unfold ovA;omega
   split<;>omega
  ·have e:ovA m1 (e1-e2-low)=m1:=by unfold ovA;rw[show(e1-e2-low).toNat=0 by omega];simp
   have a:ovA m1 (e1-e2-low)/ovA m2 (-(e1-e2-low))≤m1/2^(-(e1-e2-low)).toNat:=by
    rw[e]
    refine Nat.div_le_div_left ?_ (Nat.pow_pos (by decide))
    unfold ovA
    exact Nat.le_mul_of_pos_left _ (by omega)
   have b:=jC a
   have c:=aK6 m1 (-(e1-e2-low)).toNat
   split<;>omega
 unfold ovQ
 omega
theorem ExV.over_bd2{l1 h1 low mode hi:Int}{x y:ExV}(hx:x.bd l1 h1)(h0:y.m≠0)(hy:0≤y.e)(h:h1+1≤hi)(hb:low+1≤hi):(x.over y low mode).bd low hi:=by
 obtain⟨a1,a2,a3⟩:=hx
 refine⟨fun h=>?_,Int.le_refl _,?_⟩
 ·have h:ovQ (x.s != y.s) x.m x.e y.m y.e low mode=0:=h
  show((x.s != y.s)&&decide (ovQ (x.s != y.s) x.m x.e y.m y.e low mode≠0))=false
  rw[decide_eq_false (by rw[h];simp),Bool.and_false]
 ·have:=@aQf (x.s != y.s) x.m x.e y.m y.e low mode h0
  show(bl (ovQ (x.s != y.s) x.m x.e y.m y.e low mode):Int)+low≤hi
  split at this<;>omega
theorem SpV.divd_bd{s:SpV}{lo hi low H:Int}{k:Nat}(hs:s.bd lo hi)(hk:k≠0)(h:hi+1≤H)(hb:low+1≤H):(s.divd k low).bd low H:=by
 have he:∀mode,gbd low H (qZ (fun x y=>x.over y low mode) s ⟨exN k,exN k⟩):=by
  intro mode x hx
  have h0:(exN k).m≠0:=hk
  have h1:0≤(exN k).e:=Int.le_refl 0
  simp only[qZ,List.mem_cons,List.not_mem_nil,or_false]at hx
  rcases hx with rfl|rfl|rfl|rfl
  ·exact ExV.over_bd2 hs.1 h0 h1 h hb
  ·exact ExV.over_bd2 hs.1 h0 h1 h hb
  ·exact ExV.over_bd2 hs.2 h0 h1 h hb
  ·exact ExV.over_bd2 hs.2 h0 h1 h hb
 exact⟨Jy (he 3) (by simp[qZ]),QS (he 2) (by simp[qZ])⟩
theorem YB{n:Nat}:(gId n).length=n*n:=z7
theorem aWu{n:Nat}:gbd 0 1 (gId n):=aHJ fun i j hi hj=>by
 unfold idF
 split
 ·exact⟨(fun h=>by cases h),Int.le_refl _,by show(bl 1:Int)+0≤1;have:bl 1≤1:=zf.2 (by decide);omega⟩
 ·exact abL (by omega) (by omega)
def hvN(y:ExV):Nat:=if y.m=0 then 0 else(y.top+1).toNat
def gSt(n:Nat)(b:List SpV)(w:Int):Nat→List SpV×List SpV
 |0=>((gId n).map ptS,(gId n).map ptS)
 |i+1=>(yW (gSt n b w i).1 ((qC n (gSt n b w i).2 b).map fun s=>s.divd (i+1) w),(qC n (gSt n b w i).2 b).map fun s=>s.divd (i+1) w)
def gSq(n:Nat)(w:Int)(F:List SpV):Nat→List SpV
 |0=>F
 |k+1=>(qC n (gSq n w F k) (gSq n w F k)).map fun s=>s.out w
def gFt(n:Nat)(b:List SpV)(B:Nat):List SpV:=(gSt n b (-(B:Int)) (tmF B)).1.map fun s=>s.fat (ex1.shift (-(B:Int)))
def gB(n:Nat)(L:List ExV)(s:Nat):List SpV:=(qF n L (ex1.shift (-(s:Int)))).map ptS
def yb(n:Nat)(L:List ExV)(s B:Nat)(low:Int):List SpV:=(gSq n (-(B:Int)) (gFt n (gB n L s) B) s).map fun s=>s.out (low-4)
theorem zW{n:Nat}{b:List SpV}{w:Int}:∀i,(gSt n b w i).1.length=n*n∧(gSt n b w i).2.length=n*n
 |0=>by
  have:((gId n).map ptS).length=n*n:=by rw[List.length_map];exact YB
  exact⟨this,this⟩
 |i+1=>⟨JH.trans (zW i).1,by show(List.map _ _).length=n*n;rw[List.length_map];exact zI⟩
theorem QC{n:Nat}{w:Int}{F:List SpV}(hF:F.length=n*n):∀k,(gSq n w F k).length=n*n
 |0=>hF
 |k+1=>by show(List.map _ _).length=n*n;rw[List.length_map];exact zI
theorem Y7{lo hi lo' hi':Int}{l:List SpV}{f:SpV→SpV}(h:sbd lo hi l)(hf:∀s:SpV,s.bd lo hi→(f s).bd lo' hi'):sbd lo' hi' (l.map f):=fun x hx=>by
 obtain⟨s,hs,rfl⟩:=List.mem_map.1 hx
 exact hf s (h s hs)
theorem ahq{n:Nat}{b:List SpV}{B:Nat}(hn:n≤4)(hB:1≤B)(hl:b.length=n*n)(hb:sbd (-3100) 0 b):∀i:Nat,sbd (-(B:Int)) (1+7*i) (gSt n b (-(B:Int)) i).1∧sbd (-(B:Int)) (1+6*i) (gSt n b (-(B:Int)) i).2∧sbd (-(B:Int)-3100) (5+6*i) (qC n (gSt n b (-(B:Int)) i).2 b)
 |i=>by
  have key:sbd (-(B:Int)) (1+7*i) (gSt n b (-(B:Int)) i).1∧sbd (-(B:Int)) (1+6*i) (gSt n b (-(B:Int)) i).2:=by
   cases i with
   |zero=>
    have h0:sbd (-(B:Int)) 1 ((gId n).map ptS):=fun x hx=>by
     obtain⟨y,hy,rfl⟩:=List.mem_map.1 hx
     have:=aWu y hy
     exact⟨this.mono (by omega) (by omega),this.mono (by omega) (by omega)⟩
    exact⟨h0,h0⟩
   |succ i=>
    obtain⟨g1,g2,g3⟩:=ahq hn hB hl hb i
    have h2:sbd (-(B:Int)) (1+6*((i+1:Nat):Int)) (gSt n b (-(B:Int)) (i+1)).2:=Y7 g3 fun s hs=>SpV.divd_bd hs (by omega) (by omega) (by omega)
    refine⟨?_,h2⟩
    have:=aIn (lo:= -(B:Int)) (hi:=7+7*(i:Int)) (l:=(gSt n b (-(B:Int)) i).1) (l':=(gSt n b (-(B:Int)) (i+1)).2) (by rw[(zW (i+1)).2,(zW i).1]) (qE g1 (by omega) (by omega)) (qE h2 (by omega) (by omega))
    exact qE this (by omega) (by omega)
  refine⟨key.1,key.2,?_⟩
  have:=abJ (zW i).2 hl key.2 hb (by omega)
  exact qE this (by omega) (by omega)
theorem avO{B:Nat}(hB:B≤148):tmF B≤40:=by
 have h:fct 41*2^40≥2^148:=by decide+kernel
 have key:∀f k:Nat,k≤40→tmS B k f≤40:=by
  intro f
  induction f with
  |zero=>intro k _;show(0:Nat)≤40;omega
  |succ f ih=>
   intro k hk
   unfold tmS
   split
   ·rename_i c
    by_cases e:k=40
    ·subst e
     have c:fct 41*2^40<2^B:=c
     have:=Nat.pow_le_pow_right (n:=2) (by decide) hB
     omega
    ·exact ih (k+1) (by omega)
   ·exact hk
 exact key 402 1 (by omega)
theorem atJ{n:Nat}{b:List SpV}{B:Nat}(hn:n≤4)(hB:1≤B∧B≤148)(hl:b.length=n*n)(hb:sbd (-3100) 0 b):sbd (-(B:Int)) 282 (gFt n b B):=by
 have h1:=avO hB.2
 have h2:=(ahq hn hB.1 hl hb (tmF B)).1
 refine Y7 (qE h2 (Int.le_refl _) (show _≤(281:Int) by omega)) fun s hs=>?_
 have hy:(ex1.shift (-(B:Int))).bd (-(B:Int)) 281:=⟨(fun h=>by cases h),by show _≤(0:Int)+ -(B:Int);omega,by show(bl 1:Int)+(0+ -(B:Int))≤281;have:bl 1≤1:=zf.2 (by decide);omega⟩
 exact SpV.fat_bd hs hy
theorem ahr{n:Nat}{F:List SpV}{B:Nat}(hn:n≤4)(hB:1≤B)(hF:F.length=n*n)(hb:sbd (-(B:Int)) 282 F):∀k:Nat,sbd (-((B*2^k:Nat):Int)) (287*2^k-5:Nat) (gSq n (-(B:Int)) F k)∧sbd (-((B*2^(k+1):Nat):Int)) (287*2^(k+1)-6:Nat) (qC n (gSq n (-(B:Int)) F k) (gSq n (-(B:Int)) F k))
 |k=>by
  have hp:1≤2^k:=Nat.pow_pos (by decide)
  have e1:B*2^(k+1)=B*2^k+B*2^k:=by rw[Nat.pow_succ,←Nat.mul_assoc];omega
  have e2:(2:Nat)^(k+1)=2*2^k:=by rw[Nat.pow_succ];omega
  have hBk:B≤B*2^k:=Nat.le_mul_of_pos_right B hp
  have key:sbd (-((B*2^k:Nat):Int)) (287*2^k-5:Nat) (gSq n (-(B:Int)) F k):=by
   cases k with
   |zero=>exact qE hb (by simp) (by simp)
   |succ k=>
    have g:=(ahr hn hB hF hb k).2
    have hp':1≤2^k:=Nat.pow_pos (by decide)
    have e2':(2:Nat)^(k+1)=2*2^k:=by rw[Nat.pow_succ];omega
    have hBk':B≤B*2^(k+1):=Nat.le_mul_of_pos_right B (Nat.pow_pos (by decide))
    generalize B*2^(k+1)=P at*
    generalize 2^(k+1)=Q at*
    refine Y7 g fun s hs=>?_
    have:=SpV.out_bd (low:= -(B:Int)) hs (by omega) (by omega)
    exact SpV.bd.mono this (Int.le_refl _) (by omega)
  refine⟨key,?_⟩
  rw[e1,e2]
  generalize B*2^k=P at*
  generalize 2^k=Q at*
  have:=abJ (QC hF k) (QC hF k) key key (by omega)
  exact qE this (by omega) (by omega)
theorem yl{n:Nat}{L:List ExV}{s B:Nat}{low:Int}:(yb n L s B low).length=n*n:=by
 show(List.map _ _).length=n*n
 rw[List.length_map]
 refine QC ?_ s
 show(List.map _ _).length=n*n
 rw[List.length_map];exact(zW _).1
theorem pw8{s B:Nat}(hs:s≤8)(hB:B≤148):2^s≤256∧B*2^s≤37888:=by
 have h1:2^s≤2^8:=Nat.pow_le_pow_right (by decide) hs
 exact⟨h1,Nat.mul_le_mul hB h1⟩
theorem aHE{n:Nat}{L:List ExV}{s B:Nat}{low:Int}(hn:n≤4)(hs:s≤8)(hB:1≤B∧B≤148)(hw: -(B:Int)≤low-4)(hlo:low≤0)(hb:sbd (-3100) 0 (gB n L s)):sbd (-37888) 73473 (yb n L s B low):=by
 obtain⟨q1,q2⟩:=pw8 hs hB.2
 have hl:(gB n L s).length=n*n:=by show(List.map _ _).length=n*n;rw[List.length_map];exact z7
 have hFl:(gFt n (gB n L s) B).length=n*n:=by show(List.map _ _).length=n*n;rw[List.length_map];exact(zW _).1
 have g:=(ahr hn hB.1 hFl (atJ hn hB hl hb) s).1
 have hp:B≤B*2^s:=Nat.le_mul_of_pos_right B (Nat.pow_pos (by decide))
 refine Y7 (qE g (show(-37888:Int)≤_ by omega) (show _≤(73472:Int) by omega)) fun x hx=>?_
 exact SpV.bd.mono (SpV.out_bd hx (by omega) (by omega)) (by omega) (by omega)
set_option maxRecDepth 100000 in
theorem auH(n:Nat)(L:List ExV)(s B:Nat)(low:Int)(hn:n≤4)(hL:L.length=n*n)(hLb:gbd (-3000) 4600 L)(hs:s≤8)(hw:low-2*(s:Int)-12= -(B:Int))(hlo: -120≤low∧low≤0)(hb:sbd (-3100) 0 (gB n L s))
  (y:ExV) (hy:qS n L n=y) (h0:y.m=0) (hs0:s=0):Con Tryz.prog 71 false [.ag [.v (.int .i64 (n)),.sl (L).length (qn ExV.cs (L))],.v (.int .i64 low)] [] (isA (.ag [.v (.int .i64 (n)),.sl (yb n L s B low).length (qn SpV.cs (yb n L s B low))])):=by
 refine Con.frzA ?_
 have hB:1≤B∧B≤148:=by omega
 have cn:=Qd n L hn hL (je hLb (by omega) (by omega))
 rw[hy]at cn
 have byd:y.bd (-3000) 4700:=by rw[←hy];exact(jZ hL hLb (by omega) n (Nat.le_refl n)).mono (by omega) (by omega)
 have cz:=Qe y.s y.m y.e
 rw[decide_eq_true h0]at cz
 have hty: -3100≤y.top∧y.top≤4800:=by
  unfold ExV.top
  have:=byd.2
  split<;>omega
 have bsh:(ex1.shift (-(s:Int))).bd (-8) 1:=⟨(fun h=>by cases h),by show(-8:Int)≤0+ -(s:Int);omega,by show(bl 1:Int)+(0+ -(s:Int))≤1;have:bl 1≤1:=zf.2 (by decide);omega⟩
 have cs:=jm ex1 (-(s:Int)) (by decide) (by omega)
 have cg:=yG n L (ex1.shift (-(s:Int))) hn hL (je hLb (by omega) (by omega)) (bsh.mono (by omega) (by omega))
 have cf:=jo n (qF n L (ex1.shift (-(s:Int)))) (by show(gl _ _ _).length≤_;rw[z7];have:=j7 hn;omega)
 change Con _ _ _ _ _ (isA (.ag [.v (.int .i64 (n)),.sl (gB n L s).length (qn SpV.cs (gB n L s))]))at cf
 have hq:=j7 hn
 have hbl:(gB n L s).length=n*n:=by show(List.map _ _).length=n*n;rw[List.length_map];exact z7
 have ci:=ags n hn
 have cfi:=jo n (gId n) (by rw[YB];omega)
 have hst0:(gId n).map ptS=(gSt n (gB n L s) (-(B:Int)) 0).1:=rfl
 rw[hst0]at cfi
 have hst00:(gSt n (gB n L s) (-(B:Int)) 0).2=(gSt n (gB n L s) (-(B:Int)) 0).1:=rfl
 have ct:=JR B (by omega)
 have cs2:=jm ex1 (-(B:Int)) (by decide) (by omega)
 have bsh2:(ex1.shift (-(B:Int))).bd (-148) 1:=⟨(fun h=>by cases h),by show(-148:Int)≤0+ -(B:Int);omega,by show(bl 1:Int)+(0+ -(B:Int))≤1;have:bl 1≤1:=zf.2 (by decide);omega⟩
 have hSb:=ahq hn hB.1 hbl hb
 have hSl:=fun i=>zW (n:=n) (b:=gB n L s) (w:= -(B:Int)) i
 have htm:=avO hB.2
 have hFl:(gFt n (gB n L s) B).length=n*n:=by show(List.map _ _).length=n*n;rw[List.length_map];exact(zW _).1
 have cft:=XN n (gSt n (gB n L s) (-(B:Int)) (tmF B)).1 (ex1.shift (-(B:Int))) (by rw[(hSl _).1];omega) (qE (hSb (tmF B)).1 (by omega) (by omega)) (bsh2.mono (by omega) (by omega))
 change Con _ _ _ _ _ (isA (.ag [.v (.int .i64 (n)),.sl (gFt n (gB n L s) B).length (qn SpV.cs (gFt n (gB n L s) B))]))at cft
 obtain⟨q1,q2⟩:=pw8 hs hB.2
 have hFb:=atJ hn hB hbl hb
 have hQb:=ahr hn hB.1 hFl hFb
 have hQl:=fun k=>QC (w:= -(B:Int)) hFl k
 have cot:=Q2 n (gSq n (-(B:Int)) (gFt n (gB n L s) B) s) (low-4) (by rw[hQl];omega) (qE (hQb s).1 (by omega) (by omega)) (by omega)
 change Con _ _ _ _ _ (isA (.ag [.v (.int .i64 (n)),.sl (yb n L s B low).length (qn SpV.cs (yb n L s B low))]))at cot
 have hHl:(yb n L s B low).length=n*n:=yl
 have hSs:∀i,(gSt n (gB n L s) (-(B:Int)) (i+1)).1=yW (gSt n (gB n L s) (-(B:Int)) i).1 (gSt n (gB n L s) (-(B:Int)) (i+1)).2:=fun _=>rfl
 have hSs2:∀i,(gSt n (gB n L s) (-(B:Int)) (i+1)).2=(qC n (gSt n (gB n L s) (-(B:Int)) i).2 (gB n L s)).map fun x=>x.divd (i+1) (-(B:Int)):=fun _=>rfl
 have hQ0:gSq n (-(B:Int)) (gFt n (gB n L s) B) 0=gFt n (gB n L s) B:=rfl
 have hQs:∀k,gSq n (-(B:Int)) (gFt n (gB n L s) B) (k+1)=(qC n (gSq n (-(B:Int)) (gFt n (gB n L s) B) k) (gSq n (-(B:Int)) (gFt n (gB n L s) B) k)).map fun x=>x.out (-(B:Int)):=fun _=>rfl
 generalize hHH:yb n L s B low=H at*
 generalize gFt n (gB n L s) B=F0 at*
 generalize gB n L s=b at*
 generalize qF n L (ex1.shift (-(s:Int)))=G at*
 generalize gId n=I at*
 refine Con.of_w (rs:=[.cell 4 107]) Tryz.func71 rfl Tryz.ntmps71 rfl ?_
 simp(disch:=omega)only[go_sem]
 refine qa (cn) ?_
 simp(disch:=omega)only[go_sem]
 refine ql (cz) ?_
 simp(disch:=omega)only[go_sem]
 have hs1:(s:Int)=0:=by omega
 rw[show(low-2*0-12:Int)= -(B:Int) by omega]
 refine qv rfl [⟨0,[],[]⟩,⟨2,[0],[]⟩,⟨3,[0],[]⟩,⟨7,[0],[]⟩,⟨1,[0],[100000000]⟩,⟨4,[0],[100000000]⟩,⟨5,[],[100000000]⟩,⟨6,[],[100000000]⟩,⟨8,[],[]⟩] (by kernel_rfl) ?_
 simp(disch:=omega)only[go_sem]
 refine qa (yE) ?_
 simp(disch:=omega)only[go_sem]
 refine qa (cs) ?_ (by simp(disch:=omega)only[go_sem,show(0-0:Int)= -(s:Int) by omega])
 simp(disch:=omega)only[go_sem]
 refine qa (cg) ?_
 simp(disch:=omega)only[go_sem]
 refine qa (cf) ?_
 simp(disch:=omega)only[go_sem]
 refine qa (ci) ?_
 simp(disch:=omega)only[go_sem]
 refine qa (cfi) ?_
 simp(disch:=omega)only[go_sem]
 refine qi (fun i:Nat=>[(1,.v (.int .i64 low)),(4,.pt 0 0),(6,.v (.int .i64 s)),(7,.v (.int .i64 (-(B:Int)))),(8,.pt 1 0),(9,.pt 2 0),(10,.pt 3 0),(11,.v (.int .i64 ((i:Int)+1)))])
  (fun i=>[(0,.own 0 [.v (.int .i64 0),.v (.slice none 0 0)]),(1,.own 0 [.v (.int .i64 n),.sl b.length (qn SpV.cs b)]),(2,.own 0 [.v (.int .i64 n),.sl (gSt n b (-(B:Int)) i).1.length (qn SpV.cs (gSt n b (-(B:Int)) i).1)]),(3,.own 0 [.v (.int .i64 n),.sl (gSt n b (-(B:Int)) i).2.length (qn SpV.cs (gSt n b (-(B:Int)) i).2)])])
  (fun i=>i≤tmF B) (fun i=>tmF B-i) 0 (by omega)
  (Le.lst [(0,60000000),(1,100000000),(2,110000000),(3,120000000)] _ _ rfl (by simp(disch:=omega)only[go_sem,show(0:Int)+1=1 from rfl,hs1]) (by simp(disch:=omega)only[go_sem,hst00])) ?_
 intro i hi
 obtain⟨b1,b2,b3⟩:=hSb i
 obtain⟨l1,l2⟩:=hSl i
 have ei:(i:Int)+1=((i+1:Nat):Int):=by omega
 have cT:=jP n (gSt n b (-(B:Int)) i).2 b hn l2 hbl (qE b2 (by omega) (by omega)) (qE hb (by omega) (by omega))
 have hTl:(qC n (gSt n b (-(B:Int)) i).2 b).length=n*n:=zI
 have cD:=XO n (qC n (gSt n b (-(B:Int)) i).2 b) (i+1) (-(B:Int)) (by omega) (qE b3 (by omega) (by omega)) (by omega) (by omega) (by omega)
 rw[←ei,←hSs2 i]at cD
 simp(disch:=omega)only[go_sem]
 refine ql (ct) ?_
 simp(disch:=omega)only[go_sem]
 refine qg (fun h2=>?_) (fun h2=>?_)
 ·have b4:=(hSb (i+1)).2.1
  have cP:=JY n (gSt n b (-(B:Int)) i).1 (gSt n b (-(B:Int)) (i+1)).2 (by omega) (by rw[l1];exact(hSl (i+1)).2) (qE b1 (by omega) (by omega)) (qE b4 (by omega) (by omega))
  rw[←hSs i]at cP
  generalize qC n (gSt n b (-(B:Int)) i).2 b=T at*
  generalize hS2:(gSt n b (-(B:Int)) (i+1)).2=S2 at*
  generalize hS1:(gSt n b (-(B:Int)) (i+1)).1=S1 at*
  simp(disch:=omega)only[go_sem,h2]
  refine qa (cT) ?_
  simp(disch:=omega)only[go_sem]
  refine qa (cD) ?_
  simp(disch:=omega)only[go_sem]
  refine qa (cP) ?_
  simp(disch:=omega)only[go_sem]
  exact qb (i+1) [] (by show i+1≤tmF B;omega) (by show tmF B-(i+1)<tmF B-i;omega) rfl (by simp(disch:=omega)only[go_sem];try omega) (by simp(disch:=omega)only[go_sem,hS1,hS2])
 ·obtain rfl:i=tmF B:=by omega
  simp(disch:=omega)only[go_sem,h2]
  refine qv rfl [⟨0,[],[]⟩,⟨2,[0],[]⟩,⟨1,[0],[]⟩,⟨3,[0],[]⟩,⟨4,[],[]⟩,⟨5,[],[]⟩] (by kernel_rfl) ?_
  simp(disch:=omega)only[go_sem]
  refine qa (yE) ?_
  simp(disch:=omega)only[go_sem]
  refine qa (cs2) ?_
  simp(disch:=omega)only[go_sem]
  refine qa (cft) ?_
  simp(disch:=omega)only[go_sem]
  refine qi (fun k:Nat=>[(1,.v (.int .i64 low)),(4,.pt 0 0),(7,.v (.int .i64 (-(B:Int)))),(9,.pt 2 0),(58,.v (.int .i64 s)),(59,.v (.int .i64 k))])
   (fun k=>[(0,.own 0 [.v (.int .i64 0),.v (.slice none 0 0)]),(2,.own 0 [.v (.int .i64 n),.sl (gSq n (-(B:Int)) F0 k).length (qn SpV.cs (gSq n (-(B:Int)) F0 k))])]) (fun k=>k≤s) (fun k=>s-k) 0 (by omega) (Le.lst [] _ _ rfl (by simp(disch:=omega)only[go_sem]) (by simp(disch:=omega)only[go_sem,hQ0])) ?_
  intro k hk
  obtain⟨c1,c2⟩:=hQb k
  have lk:=hQl k
  have q3:=pw8 (s:=k) (B:=B) (by omega) hB.2
  simp(disch:=omega)only[go_sem]
  refine qg (fun h3=>?_) (fun h3=>?_)
  ·have q4:=pw8 (s:=k+1) (B:=B) (by omega) hB.2
   have cS:=jP n (gSq n (-(B:Int)) F0 k) (gSq n (-(B:Int)) F0 k) hn lk lk (qE c1 (by omega) (by omega)) (qE c1 (by omega) (by omega))
   have hTl2:(qC n (gSq n (-(B:Int)) F0 k) (gSq n (-(B:Int)) F0 k)).length=n*n:=zI
   have cO:=Q2 n (qC n (gSq n (-(B:Int)) F0 k) (gSq n (-(B:Int)) F0 k)) (-(B:Int)) (by omega) (qE c2 (by omega) (by omega)) (by omega)
   rw[←hQs k]at cO
   generalize qC n (gSq n (-(B:Int)) F0 k) (gSq n (-(B:Int)) F0 k)=T2 at*
   generalize hK1:gSq n (-(B:Int)) F0 (k+1)=K1 at*
   generalize gSq n (-(B:Int)) F0 k=K0 at*
   simp(disch:=omega)only[go_sem,h3]
   refine qa (cS) ?_
   simp(disch:=omega)only[go_sem]
   refine qa (cO) ?_
   simp(disch:=omega)only[go_sem]
   exact qb (k+1) [] (by show k+1≤s;omega) (by show s-(k+1)<s-k;omega) rfl (by simp(disch:=omega)only[go_sem];try omega) (by simp(disch:=omega)only[go_sem,hK1])
  ·obtain rfl:k=s:=by omega
   simp(disch:=omega)only[go_sem,h3]
   refine qa (cot) ?_
   simp(disch:=omega)only[go_sem]
   exact qp
set_option maxRecDepth 100000 in
theorem auI(n:Nat)(L:List ExV)(s B:Nat)(low:Int)(hn:n≤4)(hL:L.length=n*n)(hLb:gbd (-3000) 4600 L)(hs:s≤8)(hw:low-2*(s:Int)-12= -(B:Int))(hlo: -120≤low∧low≤0)(hb:sbd (-3100) 0 (gB n L s))
  (y:ExV) (hy:qS n L n=y) (h0:y.m≠0) (hs0:(if 0>y.top+1 then 0 else y.top+1)=(s:Int)):Con Tryz.prog 71 false [.ag [.v (.int .i64 (n)),.sl (L).length (qn ExV.cs (L))],.v (.int .i64 low)] [] (isA (.ag [.v (.int .i64 (n)),.sl (yb n L s B low).length (qn SpV.cs (yb n L s B low))])):=by
 refine Con.frzA ?_
 have hB:1≤B∧B≤148:=by omega
 have cn:=Qd n L hn hL (je hLb (by omega) (by omega))
 rw[hy]at cn
 have byd:y.bd (-3000) 4700:=by rw[←hy];exact(jZ hL hLb (by omega) n (Nat.le_refl n)).mono (by omega) (by omega)
 have cz:=Qe y.s y.m y.e
 rw[decide_eq_false h0]at cz
 have ctp:=aIM y (byd.mono (by omega) (by omega))
 have hty: -3100≤y.top∧y.top≤4800:=by
  unfold ExV.top
  have:=byd.2
  split<;>omega
 have bsh:(ex1.shift (-(s:Int))).bd (-8) 1:=⟨(fun h=>by cases h),by show(-8:Int)≤0+ -(s:Int);omega,by show(bl 1:Int)+(0+ -(s:Int))≤1;have:bl 1≤1:=zf.2 (by decide);omega⟩
 have cs:=jm ex1 (-(s:Int)) (by decide) (by omega)
 have cg:=yG n L (ex1.shift (-(s:Int))) hn hL (je hLb (by omega) (by omega)) (bsh.mono (by omega) (by omega))
 have cf:=jo n (qF n L (ex1.shift (-(s:Int)))) (by show(gl _ _ _).length≤_;rw[z7];have:=j7 hn;omega)
 change Con _ _ _ _ _ (isA (.ag [.v (.int .i64 (n)),.sl (gB n L s).length (qn SpV.cs (gB n L s))]))at cf
 have hq:=j7 hn
 have hbl:(gB n L s).length=n*n:=by show(List.map _ _).length=n*n;rw[List.length_map];exact z7
 have ci:=ags n hn
 have cfi:=jo n (gId n) (by rw[YB];omega)
 have hst0:(gId n).map ptS=(gSt n (gB n L s) (-(B:Int)) 0).1:=rfl
 rw[hst0]at cfi
 have hst00:(gSt n (gB n L s) (-(B:Int)) 0).2=(gSt n (gB n L s) (-(B:Int)) 0).1:=rfl
 have ct:=JR B (by omega)
 have cs2:=jm ex1 (-(B:Int)) (by decide) (by omega)
 have bsh2:(ex1.shift (-(B:Int))).bd (-148) 1:=⟨(fun h=>by cases h),by show(-148:Int)≤0+ -(B:Int);omega,by show(bl 1:Int)+(0+ -(B:Int))≤1;have:bl 1≤1:=zf.2 (by decide);omega⟩
 have hSb:=ahq hn hB.1 hbl hb
 have hSl:=fun i=>zW (n:=n) (b:=gB n L s) (w:= -(B:Int)) i
 have htm:=avO hB.2
 have hFl:(gFt n (gB n L s) B).length=n*n:=by show(List.map _ _).length=n*n;rw[List.length_map];exact(zW _).1
 have cft:=XN n (gSt n (gB n L s) (-(B:Int)) (tmF B)).1 (ex1.shift (-(B:Int))) (by rw[(hSl _).1];omega) (qE (hSb (tmF B)).1 (by omega) (by omega)) (bsh2.mono (by omega) (by omega))
 change Con _ _ _ _ _ (isA (.ag [.v (.int .i64 (n)),.sl (gFt n (gB n L s) B).length (qn SpV.cs (gFt n (gB n L s) B))]))at cft
 obtain⟨q1,q2⟩:=pw8 hs hB.2
 have hFb:=atJ hn hB hbl hb
 have hQb:=ahr hn hB.1 hFl hFb
 have hQl:=fun k=>QC (w:= -(B:Int)) hFl k
 have cot:=Q2 n (gSq n (-(B:Int)) (gFt n (gB n L s) B) s) (low-4) (by rw[hQl];omega) (qE (hQb s).1 (by omega) (by omega)) (by omega)
 change Con _ _ _ _ _ (isA (.ag [.v (.int .i64 (n)),.sl (yb n L s B low).length (qn SpV.cs (yb n L s B low))]))at cot
 have hHl:(yb n L s B low).length=n*n:=yl
 have hSs:∀i,(gSt n (gB n L s) (-(B:Int)) (i+1)).1=yW (gSt n (gB n L s) (-(B:Int)) i).1 (gSt n (gB n L s) (-(B:Int)) (i+1)).2:=fun _=>rfl
 have hSs2:∀i,(gSt n (gB n L s) (-(B:Int)) (i+1)).2=(qC n (gSt n (gB n L s) (-(B:Int)) i).2 (gB n L s)).map fun x=>x.divd (i+1) (-(B:Int)):=fun _=>rfl
 have hQ0:gSq n (-(B:Int)) (gFt n (gB n L s) B) 0=gFt n (gB n L s) B:=rfl
 have hQs:∀k,gSq n (-(B:Int)) (gFt n (gB n L s) B) (k+1)=(qC n (gSq n (-(B:Int)) (gFt n (gB n L s) B) k) (gSq n (-(B:Int)) (gFt n (gB n L s) B) k)).map fun x=>x.out (-(B:Int)):=fun _=>rfl
 generalize hHH:yb n L s B low=H at*
 generalize gFt n (gB n L s) B=F0 at*
 generalize gB n L s=b at*
 generalize qF n L (ex1.shift (-(s:Int)))=G at*
 generalize gId n=I at*
 refine Con.of_w (rs:=[.cell 4 107]) Tryz.func71 rfl Tryz.ntmps71 rfl ?_
 simp(disch:=omega)only[go_sem]
 refine qa (cn) ?_
 simp(disch:=omega)only[go_sem]
 refine ql (cz) ?_
 simp(disch:=omega)only[go_sem]
 refine ql (ctp) ?_
 simp(disch:=omega)only[go_sem]
 rw[hs0,hw]
 refine qv rfl [⟨0,[],[]⟩,⟨2,[0],[]⟩,⟨3,[0],[]⟩,⟨7,[0],[]⟩,⟨1,[0],[100000000]⟩,⟨4,[0],[100000000]⟩,⟨5,[],[100000000]⟩,⟨6,[],[100000000]⟩,⟨8,[],[]⟩] (by kernel_rfl) ?_
 simp(disch:=omega)only[go_sem]
 refine qa (yE) ?_
 simp(disch:=omega)only[go_sem]
 refine qa (cs) ?_ (by simp(disch:=omega)only[go_sem,show(0-(s:Int):Int)= -(s:Int) by omega])
 simp(disch:=omega)only[go_sem]
 refine qa (cg) ?_
 simp(disch:=omega)only[go_sem]
 refine qa (cf) ?_
 simp(disch:=omega)only[go_sem]
 refine qa (ci) ?_
 simp(disch:=omega)only[go_sem]
 refine qa (cfi) ?_
 simp(disch:=omega)only[go_sem]
 refine qi (fun i:Nat=>[(1,.v (.int .i64 low)),(4,.pt 0 0),(6,.v (.int .i64 s)),(7,.v (.int .i64 (-(B:Int)))),(8,.pt 1 0),(9,.pt 2 0),(10,.pt 3 0),(11,.v (.int .i64 ((i:Int)+1)))])
  (fun i=>[(0,.own 0 [.v (.int .i64 0),.v (.slice none 0 0)]),(1,.own 0 [.v (.int .i64 n),.sl b.length (qn SpV.cs b)]),(2,.own 0 [.v (.int .i64 n),.sl (gSt n b (-(B:Int)) i).1.length (qn SpV.cs (gSt n b (-(B:Int)) i).1)]),(3,.own 0 [.v (.int .i64 n),.sl (gSt n b (-(B:Int)) i).2.length (qn SpV.cs (gSt n b (-(B:Int)) i).2)])])
  (fun i=>i≤tmF B) (fun i=>tmF B-i) 0 (by omega)
  (Le.lst [(0,60000000),(1,100000000),(2,110000000),(3,120000000)] _ _ rfl (by simp(disch:=omega)only[go_sem,show(0:Int)+1=1 from rfl]) (by simp(disch:=omega)only[go_sem,hst00])) ?_
 intro i hi
 obtain⟨b1,b2,b3⟩:=hSb i
 obtain⟨l1,l2⟩:=hSl i
 have ei:(i:Int)+1=((i+1:Nat):Int):=by omega
 have cT:=jP n (gSt n b (-(B:Int)) i).2 b hn l2 hbl (qE b2 (by omega) (by omega)) (qE hb (by omega) (by omega))
 have hTl:(qC n (gSt n b (-(B:Int)) i).2 b).length=n*n:=zI
 have cD:=XO n (qC n (gSt n b (-(B:Int)) i).2 b) (i+1) (-(B:Int)) (by omega) (qE b3 (by omega) (by omega)) (by omega) (by omega) (by omega)
 rw[←ei,←hSs2 i]at cD
 simp(disch:=omega)only[go_sem]
 refine ql (ct) ?_
 simp(disch:=omega)only[go_sem]
 refine qg (fun h2=>?_) (fun h2=>?_)
 ·have b4:=(hSb (i+1)).2.1
  have cP:=JY n (gSt n b (-(B:Int)) i).1 (gSt n b (-(B:Int)) (i+1)).2 (by omega) (by rw[l1];exact(hSl (i+1)).2) (qE b1 (by omega) (by omega)) (qE b4 (by omega) (by omega))
  rw[←hSs i]at cP
  generalize qC n (gSt n b (-(B:Int)) i).2 b=T at*
  generalize hS2:(gSt n b (-(B:Int)) (i+1)).2=S2 at*
  generalize hS1:(gSt n b (-(B:Int)) (i+1)).1=S1 at*
  simp(disch:=omega)only[go_sem,h2]
  refine qa (cT) ?_
  simp(disch:=omega)only[go_sem]
  refine qa (cD) ?_
  simp(disch:=omega)only[go_sem]
  refine qa (cP) ?_
  simp(disch:=omega)only[go_sem]
  exact qb (i+1) [] (by show i+1≤tmF B;omega) (by show tmF B-(i+1)<tmF B-i;omega) rfl (by simp(disch:=omega)only[go_sem];try omega) (by simp(disch:=omega)only[go_sem,hS1,hS2])
 ·obtain rfl:i=tmF B:=by omega
  simp(disch:=omega)only[go_sem,h2]
  refine qv rfl [⟨0,[],[]⟩,⟨2,[0],[]⟩,⟨1,[0],[]⟩,⟨3,[0],[]⟩,⟨4,[],[]⟩,⟨5,[],[]⟩] (by kernel_rfl) ?_
  simp(disch:=omega)only[go_sem]
  refine qa (yE) ?_
  simp(disch:=omega)only[go_sem]
  refine qa (cs2) ?_
  simp(disch:=omega)only[go_sem]
  refine qa (cft) ?_
  simp(disch:=omega)only[go_sem]
  refine qi (fun k:Nat=>[(1,.v (.int .i64 low)),(4,.pt 0 0),(7,.v (.int .i64 (-(B:Int)))),(9,.pt 2 0),(58,.v (.int .i64 s)),(59,.v (.int .i64 k))])
   (fun k=>[(0,.own 0 [.v (.int .i64 0),.v (.slice none 0 0)]),(2,.own 0 [.v (.int .i64 n),.sl (gSq n (-(B:Int)) F0 k).length (qn SpV.cs (gSq n (-(B:Int)) F0 k))])]) (fun k=>k≤s) (fun k=>s-k) 0 (by omega) (Le.lst [] _ _ rfl (by simp(disch:=omega)only[go_sem]) (by simp(disch:=omega)only[go_sem,hQ0])) ?_
  intro k hk
  obtain⟨c1,c2⟩:=hQb k
  have lk:=hQl k
  have q3:=pw8 (s:=k) (B:=B) (by omega) hB.2
  simp(disch:=omega)only[go_sem]
  refine qg (fun h3=>?_) (fun h3=>?_)
  ·have q4:=pw8 (s:=k+1) (B:=B) (by omega) hB.2
   have cS:=jP n (gSq n (-(B:Int)) F0 k) (gSq n (-(B:Int)) F0 k) hn lk lk (qE c1 (by omega) (by omega)) (qE c1 (by omega) (by omega))
   have hTl2:(qC n (gSq n (-(B:Int)) F0 k) (gSq n (-(B:Int)) F0 k)).length=n*n:=zI
   have cO:=Q2 n (qC n (gSq n (-(B:Int)) F0 k) (gSq n (-(B:Int)) F0 k)) (-(B:Int)) (by omega) (qE c2 (by omega) (by omega)) (by omega)
   rw[←hQs k]at cO
   generalize qC n (gSq n (-(B:Int)) F0 k) (gSq n (-(B:Int)) F0 k)=T2 at*
   generalize hK1:gSq n (-(B:Int)) F0 (k+1)=K1 at*
   generalize gSq n (-(B:Int)) F0 k=K0 at*
   simp(disch:=omega)only[go_sem,h3]
   refine qa (cS) ?_
   simp(disch:=omega)only[go_sem]
   refine qa (cO) ?_
   simp(disch:=omega)only[go_sem]
   exact qb (k+1) [] (by show k+1≤s;omega) (by show s-(k+1)<s-k;omega) rfl (by simp(disch:=omega)only[go_sem];try omega) (by simp(disch:=omega)only[go_sem,hK1])
  ·obtain rfl:k=s:=by omega
   simp(disch:=omega)only[go_sem,h3]
   refine qa (cot) ?_
   simp(disch:=omega)only[go_sem]
   exact qp
end Go.Ab
namespace Go.Ab
/-! ### How far a rounded inverse is off-/
end Go.Ab
namespace Go.Ab
/-! ### Sums of the exponential's row,in whole numbers-/
def ab(x:Int):Int:=(x.natAbs:Int)
theorem ji(x y:Int):ab (x*y)=ab x*ab y:=by unfold ab;rw[Int.natAbs_mul,Int.natCast_mul]
theorem anm(x:Int):0≤ab x:=by unfold ab;omega
theorem acm(x y:Int):ab (x+y)≤ab x+ab y:=by unfold ab;omega
theorem yN{x:Int}(h:0≤x):ab x=x:=by unfold ab;omega
theorem bbG(x:Int):ab (-x)=ab x:=by unfold ab;omega
theorem bbF(f:Nat→Int)(k:Nat):ab (qk f k)≤qk (fun i=>ab (f i)) k:=Jg f k
theorem Qr(B:Int):∀k:Nat,qk (fun _=>B) k=k*B
 |0=>by simp[qk]
 |k+1=>by rw[qk,Qr B k,Int.natCast_add,Int.add_mul];omega
theorem aGd{f:Nat→Int}{k:Nat}{B:Int}(h:∀i,i<k→ab (f i)≤B):ab (qk f k)≤k*B:=by
 rw[←Qr]
 exact Int.le_trans (bbF f k) (QJ h)
theorem agZ{f:Nat→Int}(h:∀i,0≤f i){i:Nat}:∀{k:Nat},i<k→f i≤qk f k
 |0,hk=>by omega
 |k+1,hk=>by
  rw[qk]
  have h0:0≤qk f k:=aa5 fun i _=>h i
  by_cases e:i=k
  ·subst e;omega
  ·have:=agZ h (i:=i) (k:=k) (by omega)
   have:=h k
   omega
theorem Ju{n:Nat}{A A' B B':Nat→Nat→Int}{i j:Nat}(h:∀t,t<n→A i t=A' i t)(h':∀t,t<n→B t j=B' t j):jg n A B i j=jg n A' B' i j:=
 qu fun t ht=>by rw[h t ht,h' t ht]
theorem aV1{n:Nat}(A:Nat→Nat→Int){i j:Nat}(hj:j<n):jg n A idI i j=A i j:=by
 unfold jg
 rw[ja (j:=j) hj (fun t _ hne=>by unfold idI;rw[if_neg hne,Int.mul_zero])]
 unfold idI;rw[if_pos rfl,Int.mul_one]
theorem ag8{n:Nat}(A:Nat→Nat→Int)(a:Nat):∀b i j:Nat,j<n→z8 n A (a+b) i j=jg n (z8 n A a) (z8 n A b) i j
 |0,i,j,hj=>(aV1 _ hj).symm
 |b+1,i,j,hj=>by
  show jg n (z8 n A (a+b)) A i j=jg n (z8 n A a) (jg n (z8 n A b) A) i j
  rw[←Zh]
  exact Ju (fun t ht=>ag8 A a b i t ht) (fun t _=>rfl)
theorem ata(n:Nat)(a x:Int)(P A:Nat→Nat→Int)(i j:Nat):jg n (fun i j=>a*P i j) (fun i j=>x*A i j) i j=a*x*jg n P A i j:=by
 unfold jg
 rw[←q9]
 exact qu fun t _=>by grind
theorem Yt(n:Nat)(x:Int)(A:Nat→Nat→Int):∀t i j:Nat,z8 n (fun i j=>x*A i j) t i j=x^t*z8 n A t i j
 |0,i,j=>by simp[z8]
 |t+1,i,j=>by
  show jg n (z8 n (fun i j=>x*A i j) t) (fun i j=>x*A i j) i j=x^(t+1)*jg n (z8 n A t) A i j
  rw[Ju (A':=fun i j=>x^t*z8 n A t i j) (B':=fun i j=>x*A i j) (fun s _=>Yt n x A t i s) (fun _ _=>rfl),ata,Int.pow_succ]
structure smallI(n:Nat)(N:Nat→Nat→Int)(c:Int):Prop where
 pos:0<c
 le:2*nrm N n≤c
theorem aVT(n:Nat):nrm idI n≤1:=Xj (by omega) fun j hj=>by
 have:qk (fun i=>((idI i j).natAbs:Int)) n=((idI j j).natAbs:Int):=ja hj fun i _ hne=>by unfold idI;rw[if_neg hne];rfl
 rw[this];unfold idI;rw[if_pos rfl];decide
theorem ag6{n:Nat}{N:Nat→Nat→Int}{c:Int}(h:smallI n N c):∀t:Nat,2^t*nrm (z8 n N t) n≤c^t
 |0=>by
  have:=aVT n
  rw[Int.pow_zero,Int.pow_zero,Int.one_mul];exact this
 |t+1=>by
  have ih:=ag6 h t
  have h1:=aQt (n:=n) (A:=z8 n N t) (B:=N) (C:=z8 n N (t+1)) (fun _ _ _ _=>rfl)
  have hN:=Zf N n
  have hp:(0:Int)<2^t:=Int.pow_pos (by omega)
  have hc:(0:Int)<c^t:=Int.pow_pos h.pos
  have h2:2^(t+1)*nrm (z8 n N (t+1)) n≤2^(t+1)*(nrm (z8 n N t) n*nrm N n):=Int.mul_le_mul_of_nonneg_left h1 (Int.le_of_lt (Int.pow_pos (by omega)))
  have h3:(2^t*nrm (z8 n N t) n)*(2*nrm N n)≤c^t*(2*nrm N n):=Int.mul_le_mul_of_nonneg_right ih (by omega)
  have h4:c^t*(2*nrm N n)≤c^t*c:=Int.mul_le_mul_of_nonneg_left h.le (Int.le_of_lt hc)
  have e:(2:Int)^(t+1)*(nrm (z8 n N t) n*nrm N n)=(2^t*nrm (z8 n N t) n)*(2*nrm N n):=by rw[Int.pow_succ];grind
  rw[Int.pow_succ c]
  omega
theorem aK0{n:Nat}(A:Nat→Nat→Int){i j:Nat}(hi:i<n)(hj:j<n):ab (A i j)≤nrm A n:=
 Int.le_trans (agZ (f:=fun i=>((A i j).natAbs:Int)) (fun i=>by omega) hi) (Xf A hj)
theorem ag7{n:Nat}{N:Nat→Nat→Int}{c:Int}(h:smallI n N c)(t:Nat){i j:Nat}(hi:i<n)(hj:j<n):2^t*ab (z8 n N t i j)≤c^t:=
 Int.le_trans (Int.mul_le_mul_of_nonneg_left (aK0 _ hi hj) (Int.le_of_lt (Int.pow_pos (by omega)))) (ag6 h t)
def fr:Nat→Nat→Int
 |0,_=>1
 |T+1,t=>if t≤T then fr T t*((T:Int)+1)else 1
theorem afY:∀T,fr T T=1
 |0=>rfl
 |T+1=>by unfold fr;rw[if_neg (by omega)]
theorem Qm:∀T t,0<fr T t
 |0,t=>by show(0:Int)<1;decide
 |T+1,t=>by
  unfold fr
  split
  ·exact Int.mul_pos (Qm T t) (by omega)
  ·decide
theorem afW{T t:Nat}(h:t≤T):fr (T+1) t=fr T t*((T:Int)+1):=by
 conv=>lhs;unfold fr
 rw[if_pos h]
theorem afX:∀{T t:Nat},t<T→((t:Int)+1)*fr T (t+1)=fr T t
 |0,t,h=>by omega
 |T+1,t,h=>by
  by_cases e:t=T
  ·subst e
   rw[afY,afW (Nat.le_refl t),afY];omega
  ·rw[afW (show t+1≤T by omega),afW (show t≤T by omega),←Int.mul_assoc,afX (by omega)]
theorem aKQ{T:Nat}:∀{t:Nat},t≤T→fr T t≤fr T 0
 |0,_=>Int.le_refl _
 |t+1,h=>by
  have h1:=afX (show t<T by omega)
  have h2:=aKQ (show t≤T by omega)
  have h3:=Qm T (t+1)
  have h4:1*fr T (t+1)≤((t:Int)+1)*fr T (t+1):=Int.mul_le_mul_of_nonneg_right (by omega) (by omega)
  omega
theorem ahs{k:Nat}:∀{T:Nat},k≤T→fr k 0≤fr T 0
 |0,h=>by
  obtain rfl:k=0:=by omega
  exact Int.le_refl _
 |T+1,h=>by
  by_cases e:k=T+1
  ·rw[e];exact Int.le_refl _
  ·have h1:=ahs (show k≤T by omega)
   have h2:=Qm T 0
   rw[afW (show 0≤T by omega)]
   have h4:fr T 0*1≤fr T 0*((T:Int)+1):=Int.mul_le_mul_of_nonneg_left (by omega) (by omega)
   omega
def eE(n:Nat)(N:Nat→Nat→Int)(c:Int)(T i j:Nat):Int:=qk (fun t=>fr T t*c^(T-t)*z8 n N t i j) (T+1)
def eD(c:Int)(T:Nat):Int:=fr T 0*c^T
theorem jy{c:Int}(h:0<c)(T:Nat):0<eD c T:=Int.mul_pos (Qm T 0) (Int.pow_pos h)
theorem XE(c:Int)(T:Nat):eD c (T+1)=((T:Int)+1)*c*eD c T:=by
 unfold eD;rw[afW (show 0≤T by omega),Int.pow_succ];grind
theorem aub(n:Nat)(N:Nat→Nat→Int)(c:Int)(T i j:Nat):eE n N c (T+1) i j=((T:Int)+1)*c*eE n N c T i j+z8 n N (T+1) i j:=by
 unfold eE
 rw[qk]
 congr 1
 ·rw[←q9]
  exact qu fun t ht=>by
   rw[afW (show t≤T by omega),show T+1-t=(T-t)+1 by omega,Int.pow_succ];grind
 ·rw[afY,Nat.sub_self];simp
theorem aSq(n:Nat)(N:Nat→Nat→Int)(c:Int)(i j:Nat):eE n N c 0 i j=idI i j:=by
 unfold eE;simp[qk,fr,z8]
theorem ahv(n:Nat)(x:Int)(N:Nat→Nat→Int)(c:Int)(T i j:Nat):eE n (fun i j=>x*N i j) c T i j=qk (fun t=>(fr T t*x^t*c^(T-t))*z8 n N t i j) (T+1):=by
 unfold eE
 exact qu fun t _=>by rw[Yt];grind
theorem ahp{X P D Dk c' F p q cc:Int}(hc:0≤c')(hD:0≤Dk)(hq:0≤q)(hF0:0≤F)(h:p*q*F*X≤D*Dk*(p-q))(hP:2*p*P≤cc)(hF:F*cc≤c'*D):(2*p)*q*F*(c'*X+P*Dk)≤(c'*D)*Dk*(2*p-q):=by
 have h1:(2*c')*(p*q*F*X)≤(2*c')*(D*Dk*(p-q)):=Int.mul_le_mul_of_nonneg_left h (by omega)
 have h2:(q*F*Dk)*(2*p*P)≤(q*F*Dk)*cc:=Int.mul_le_mul_of_nonneg_left hP (Int.mul_nonneg (Int.mul_nonneg hq hF0) hD)
 have h3:(q*Dk)*(F*cc)≤(q*Dk)*(c'*D):=Int.mul_le_mul_of_nonneg_left hF (Int.mul_nonneg hq hD)
 have e1:(2*p)*q*F*(c'*X+P*Dk)=(2*c')*(p*q*F*X)+(q*F*Dk)*(2*p*P):=by grind
 have e2:(c'*D)*Dk*(2*p-q)=(2*c')*(D*Dk*(p-q))+(q*Dk)*(c'*D):=by grind
 have e3:(q*F*Dk)*cc=(q*Dk)*(F*cc):=by grind
 omega
theorem gap{n:Nat}{N:Nat→Nat→Int}{c:Int}(h:smallI n N c)(k:Nat){i j:Nat}(hi:i<n)(hj:j<n):∀d:Nat,
  2^(k+d)*2^k*fr (k+1) 0*(eE n N c (k+d) i j*eD c k-eE n N c k i j*eD c (k+d))≤eD c (k+d)*eD c k*(2^(k+d)-2^k)∧
  2^(k+d)*2^k*fr (k+1) 0*(-(eE n N c (k+d) i j*eD c k-eE n N c k i j*eD c (k+d)))≤eD c (k+d)*eD c k*(2^(k+d)-2^k)
 |0=>by
  rw[Nat.add_zero]
  constructor
  ·rw[Int.sub_self,Int.mul_zero,Int.sub_self,Int.mul_zero];exact Int.le_refl _
  ·rw[Int.sub_self,Int.sub_self];simp
 |d+1=>by
  obtain⟨g1,g2⟩:=gap h k hi hj d
  rw[←Nat.add_assoc]
  generalize hT:k+d=T at*
  have hF:fr (k+1) 0*c^(T+1)≤(((T:Int)+1)*c)*eD c T:=by
   rw[←XE]
   exact Int.mul_le_mul_of_nonneg_right (ahs (by omega)) (Int.le_of_lt (Int.pow_pos h.pos))
  have hPe:=ag7 h (T+1) hi hj
  have hp:(0:Int)<2^T:=Int.pow_pos (by omega)
  have e2:(2:Int)^(T+1)=2*2^T:=by rw[Int.pow_succ];omega
  have hc':0≤((T:Int)+1)*c:=Int.mul_nonneg (by omega) (Int.le_of_lt h.pos)
  have hDk:=Int.le_of_lt (jy h.pos k)
  have hq:(0:Int)≤2^k:=Int.le_of_lt (Int.pow_pos (by omega))
  have hF0:=Int.le_of_lt (Qm (k+1) 0)
  rw[e2]at hPe
  have P1:2*2^T*z8 n N (T+1) i j≤c^(T+1):=Int.le_trans (Int.mul_le_mul_of_nonneg_left (by unfold ab;omega) (by omega)) hPe
  have P2:2*2^T* -z8 n N (T+1) i j≤c^(T+1):=Int.le_trans (Int.mul_le_mul_of_nonneg_left (by unfold ab;omega) (by omega)) hPe
  have s1:=ahp hc' hDk hq hF0 g1 P1 hF
  have s2:=ahp hc' hDk hq hF0 g2 P2 hF
  rw[aub,XE,e2]
  have a1:(((T:Int)+1)*c*eE n N c T i j+z8 n N (T+1) i j)*eD c k-eE n N c k i j*(((T:Int)+1)*c*eD c T)=(((T:Int)+1)*c)*(eE n N c T i j*eD c k-eE n N c k i j*eD c T)+z8 n N (T+1) i j*eD c k:=by grind
  have a2: -((((T:Int)+1)*c*eE n N c T i j+z8 n N (T+1) i j)*eD c k-eE n N c k i j*(((T:Int)+1)*c*eD c T))=(((T:Int)+1)*c)*(-(eE n N c T i j*eD c k-eE n N c k i j*eD c T))+ -z8 n N (T+1) i j*eD c k:=by grind
  rw[a2,a1]
  exact⟨s1,s2⟩
theorem aWt{n:Nat}{N:Nat→Nat→Int}{c:Int}(h:smallI n N c){k T W:Nat}(hk:k≤T)(hW:(2:Int)^W≤fr (k+1) 0*2^k){i j:Nat}(hi:i<n)(hj:j<n):
  2^W*ab (eE n N c T i j*eD c k-eE n N c k i j*eD c T)≤eD c T*eD c k:=by
 have g:=gap h k hi hj (T-k)
 rw[show k+(T-k)=T by omega]at g
 generalize eE n N c T i j*eD c k-eE n N c k i j*eD c T=X at*
 have hD:0<eD c T*eD c k:=Int.mul_pos (jy h.pos T) (jy h.pos k)
 generalize eD c T*eD c k=D at*
 have hp:(0:Int)<2^T:=Int.pow_pos (by omega)
 have hq:(0:Int)<2^k:=Int.pow_pos (by omega)
 have hX:2^T*2^k*fr (k+1) 0*ab X≤D*(2^T-2^k):=by
  rcases(show ab X=X∨ab X= -X by unfold ab;omega)with e|e
  ·rw[e];exact g.1
  ·rw[e];exact g.2
 have h1:D*(2^T-2^k)≤D*2^T:=Int.mul_le_mul_of_nonneg_left (by omega) (by omega)
 have h2:(fr (k+1) 0*2^k*ab X)*2^T≤D*2^T:=by
  have e:(fr (k+1) 0*2^k*ab X)*2^T=2^T*2^k*fr (k+1) 0*ab X:=by grind
  omega
 have h3:=Int.le_of_mul_le_mul_right h2 hp
 have h4:2^W*ab X≤fr (k+1) 0*2^k*ab X:=Int.mul_le_mul_of_nonneg_right hW (anm X)
 omega
end Go.Ab
namespace Go.Ab
/-! ### Products of sums of the exponential's row-/
theorem tri(f:Nat→Nat→Int):∀m:Nat,qk (fun i=>qk (fun j=>f i j) (m-i)) m=qk (fun k=>qk (fun i=>f i (k-i)) (k+1)) m
 |0=>rfl
 |m+1=>by
  have h1:qk (fun i=>qk (fun j=>f i j) (m+1-i)) m=qk (fun i=>qk (fun j=>f i j) (m-i)+f i (m-i)) m:=qu fun i hi=>by
   rw[show m+1-i=(m-i)+1 by omega,qk]
  have h2:qk (fun j=>f m j) (m+1-m)=f m (m-m):=by
   rw[show m+1-m=0+1 by omega,Nat.sub_self,qk,qk];omega
  rw[qk,h1,yg,h2,tri f m]
  conv=>rhs;rw[qk]
  rw[show qk (fun i=>f i (m-i)) (m+1)=qk (fun i=>f i (m-i)) m+f m (m-m) from rfl]
  omega
theorem asj{g:Nat→Int}{B:Int}(hB:0≤B){a:Nat}:∀{m:Nat},a≤m→(∀j,a≤j→j<m→ab (g j)≤B)→ab (qk g m-qk g a)≤m*B
 |0,h,_=>by
  obtain rfl:a=0:=by omega
  simp[ab]
 |m+1,h,hg=>by
  by_cases e:a=m+1
  ·rw[e,Int.sub_self];exact Int.mul_nonneg (by omega) hB
  ·have ih:=asj hB (show a≤m by omega) (fun j h1 h2=>hg j h1 (by omega))
   have h2:=hg m (by omega) (by omega)
   have h3:=acm (qk g m-qk g a) (g m)
   rw[qk,Int.natCast_add,Int.add_mul,show qk g m+g m-qk g a=qk g m-qk g a+g m by omega]
   omega
theorem al4{f:Nat→Nat→Int}{B:Int}(hB:0≤B)(m:Nat)(h:∀i j,i<m→j<m→m≤i+j→ab (f i j)≤B):
  ab (qk (fun i=>qk (fun j=>f i j) m) m-qk (fun k=>qk (fun i=>f i (k-i)) (k+1)) m)≤m*(m*B):=by
 rw[←tri]
 have e:qk (fun i=>qk (fun j=>f i j) m) m-qk (fun i=>qk (fun j=>f i j) (m-i)) m=qk (fun i=>qk (fun j=>f i j) m-qk (fun j=>f i j) (m-i)) m:=by
  rw[Int.sub_eq_add_neg,←aa6,←yg]
  exact qu fun i _=>by omega
 rw[e]
 exact aGd fun i hi=>asj hB (by omega) fun j h1 h2=>h i j hi h2 (by omega)
theorem aSv(f g:Nat→Int)(m k:Nat):qk f m*qk g k=qk (fun i=>qk (fun j=>f i*g j) k) m:=by
 rw[←zE]
 exact qu fun i _=>by rw[q9]
theorem aGO{n:Nat}(N:Nat→Nat→Int)(a b:Nat→Int)(m:Nat){u v:Nat}(hv:v<n):
  jg n (fun i j=>qk (fun t=>a t*z8 n N t i j) m) (fun i j=>qk (fun t=>b t*z8 n N t i j) m) u v=qk (fun i=>qk (fun j=>a i*b j*z8 n N (i+j) u v) m) m:=by
 show qk (fun s=>qk (fun t=>a t*z8 n N t u s) m*qk (fun t=>b t*z8 n N t s v) m) n=_
 have e1:qk (fun s=>qk (fun t=>a t*z8 n N t u s) m*qk (fun t=>b t*z8 n N t s v) m) n=qk (fun s=>qk (fun i=>qk (fun j=>a i*z8 n N i u s*(b j*z8 n N j s v)) m) m) n:=qu fun s _=>aSv _ _ m m
 rw[e1,yf]
 refine qu fun i _=>?_
 rw[yf]
 refine qu fun j _=>?_
 rw[ag8 N i j u v hv]
 unfold jg
 rw[←q9]
 exact qu fun s _=>by grind
def cv(u v:Nat→Int)(k:Nat):Int:=qk (fun i=>u i*v (k-i)) (k+1)
theorem aSx{T:Nat}{u v:Nat→Int}{x y:Int}(hu:∀i,i<T→((i:Int)+1)*u (i+1)=x*u i)(hv:∀i,i<T→((i:Int)+1)*v (i+1)=y*v i){k:Nat}(hk:k<T):((k:Int)+1)*cv u v (k+1)=(x+y)*cv u v k:=by
 have e1:((k:Int)+1)*cv u v (k+1)=qk (fun i=>((i:Int)*u i)*v (k+1-i)) (k+2)+qk (fun i=>u i*(((k+1-i:Nat):Int)*v (k+1-i))) (k+2):=by
  unfold cv
  rw[←q9,←yg]
  exact qu fun i hi=>by
   have:((k:Int)+1)=(i:Int)+((k+1-i:Nat):Int):=by omega
   rw[this];grind
 have e2:qk (fun i=>((i:Int)*u i)*v (k+1-i)) (k+2)=x*cv u v k:=by
  rw[Ym]
  have h0:((0:Nat):Int)*u 0*v (k+1-0)=0:=by simp
  rw[h0,Int.zero_add]
  unfold cv
  rw[←q9]
  exact qu fun i hi=>by
   have:=hu i (by omega)
   rw[show k+1-(i+1)=k-i by omega,show((i+1:Nat):Int)=(i:Int)+1 by omega,this];grind
 have e3:qk (fun i=>u i*(((k+1-i:Nat):Int)*v (k+1-i))) (k+2)=y*cv u v k:=by
  rw[qk,Nat.sub_self]
  have h0:u (k+1)*(((0:Nat):Int)*v 0)=0:=by simp
  rw[h0,Int.add_zero]
  unfold cv
  rw[←q9]
  exact qu fun i hi=>by
   have:=hv (k-i) (by omega)
   rw[show k+1-i=(k-i)+1 by omega,show((k-i+1:Nat):Int)=((k-i:Nat):Int)+1 by omega,this];grind
 rw[e1,e2,e3];grind
theorem ba0{T:Nat}(x y:Int):∀k,k≤T→cv (fun t=>fr T t*x^t) (fun t=>fr T t*y^t) k=fr T 0*(fr T k*(x+y)^k)
 |0,_=>by simp[cv,qk]
 |k+1,hk=>by
  have ih:=ba0 (T:=T) x y k (by omega)
  have hs:∀z:Int,∀i,i<T→((i:Int)+1)*(fr T (i+1)*z^(i+1))=z*(fr T i*z^i):=fun z i hi=>by
   rw[←Int.mul_assoc,afX hi,Int.pow_succ];grind
  have h1:=aSx (u:=fun t=>fr T t*x^t) (v:=fun t=>fr T t*y^t) (hs x) (hs y) (show k<T by omega)
  have h2:=hs (x+y) k (show k<T by omega)
  rw[ih]at h1
  have h3:((k:Int)+1)*cv (fun t=>fr T t*x^t) (fun t=>fr T t*y^t) (k+1)=((k:Int)+1)*(fr T 0*(fr T (k+1)*(x+y)^(k+1))):=by
   rw[h1,Int.mul_left_comm ((k:Int)+1),h2];grind
  exact Int.eq_of_mul_eq_mul_left (show((k:Int)+1)≠0 by omega) h3
theorem acl{x:Int}(hx:ab x≤1):∀t:Nat,ab (x^t)≤1
 |0=>by rw[Int.pow_zero];decide
 |t+1=>by
  have h1:=acl hx t
  rw[Int.pow_succ,ji]
  have h2:ab (x^t)*ab x≤ab (x^t)*1:=Int.mul_le_mul_of_nonneg_left hx (anm _)
  omega
theorem aO6{n:Nat}{N:Nat→Nat→Int}{c:Int}(h:smallI n N c){x y:Int}(hx:ab x≤1)(hy:ab y≤1){T i j:Nat}(hi:i≤T)(hj:j≤T)(hij:T+1≤i+j){u v:Nat}(hu:u<n)(hv:v<n):
  ab ((fr T i*x^i*c^(T-i))*(fr T j*y^j*c^(T-j))*z8 n N (i+j) u v)*2^(T+1)≤eD c T*eD c T:=by
 have hfi:=Qm T i
 have hfj:=Qm T j
 have hf0:=Qm T 0
 have hci:(0:Int)<c^(T-i):=Int.pow_pos h.pos
 have hcj:(0:Int)<c^(T-j):=Int.pow_pos h.pos
 have hcp:(0:Int)<c^(i+j):=Int.pow_pos h.pos
 have hP:=ag7 h (i+j) hu hv
 have hP0:=anm (z8 n N (i+j) u v)
 have h2:(2:Int)^(T+1)≤2^(i+j):=by
  have:(2:Int)^(i+j)=2^(T+1)*2^(i+j-(T+1)):=by rw[←Int.pow_add];congr 1;omega
  have h1:(0:Int)<2^(i+j-(T+1)):=Int.pow_pos (by omega)
  have h3:(0:Int)<2^(T+1):=Int.pow_pos (by omega)
  rw[this]
  have:=Int.mul_le_mul_of_nonneg_left (show(1:Int)≤2^(i+j-(T+1)) by omega) (Int.le_of_lt h3)
  omega
 have key:∀(z:Int) (t:Nat),ab z≤1→t≤T→ab (fr T t*z^t*c^(T-t))≤fr T 0*c^(T-t):=fun z t hz ht=>by
  have hct:(0:Int)<c^(T-t):=Int.pow_pos h.pos
  rw[ji,ji,yN (Int.le_of_lt (Qm T t)),yN (Int.le_of_lt hct)]
  refine Int.mul_le_mul_of_nonneg_right ?_ (Int.le_of_lt hct)
  have h1:fr T t*ab (z^t)≤fr T t*1:=Int.mul_le_mul_of_nonneg_left (acl hz t) (Int.le_of_lt (Qm T t))
  have h2:=aKQ ht
  omega
 have ki:=key x i hx hi
 have kj:=key y j hy hj
 rw[ji,ji]
 generalize ab (fr T i*x^i*c^(T-i))=A at*
 have hB0:=anm (fr T j*y^j*c^(T-j))
 generalize ab (fr T j*y^j*c^(T-j))=B at*
 generalize ab (z8 n N (i+j) u v)=P at*
 have s1:A*B≤(fr T 0*c^(T-i))*(fr T 0*c^(T-j)):=Int.le_trans (Int.mul_le_mul_of_nonneg_right ki hB0) (Int.mul_le_mul_of_nonneg_left kj (Int.mul_nonneg (Int.le_of_lt hf0) (Int.le_of_lt hci)))
 have s2:P*2^(T+1)≤c^(i+j):=by
  have:=Int.mul_le_mul_of_nonneg_left h2 hP0
  have e:2^(i+j)*P=P*2^(i+j):=Int.mul_comm _ _
  omega
 have hp2:(0:Int)≤2^(T+1):=Int.le_of_lt (Int.pow_pos (by omega))
 have s3:(A*B)*(P*2^(T+1))≤((fr T 0*c^(T-i))*(fr T 0*c^(T-j)))*c^(i+j):=Int.le_trans (Int.mul_le_mul_of_nonneg_right s1 (Int.mul_nonneg hP0 hp2)) (Int.mul_le_mul_of_nonneg_left s2 (Int.mul_nonneg (Int.mul_nonneg (Int.le_of_lt hf0) (Int.le_of_lt hci)) (Int.mul_nonneg (Int.le_of_lt hf0) (Int.le_of_lt hcj))))
 have e1:A*B*P*2^(T+1)=(A*B)*(P*2^(T+1)):=Int.mul_assoc _ _ _
 have e2:((fr T 0*c^(T-i))*(fr T 0*c^(T-j)))*c^(i+j)=eD c T*eD c T:=by
  have:c^(T-i)*c^(T-j)*c^(i+j)=c^T*c^T:=by
   rw[←Int.pow_add,←Int.pow_add,←Int.pow_add];congr 1;omega
  unfold eD
  have e3:fr T 0*c^(T-i)*(fr T 0*c^(T-j))*c^(i+j)=fr T 0*fr T 0*(c^(T-i)*c^(T-j)*c^(i+j)):=by grind
  rw[e3,this];grind
 omega
theorem aSl{n:Nat}{N:Nat→Nat→Int}{c:Int}(h:smallI n N c){x y:Int}(hx:ab x≤1)(hy:ab y≤1)(T:Nat){u v:Nat}(hu:u<n)(hv:v<n):
  ab (jg n (eE n (fun i j=>x*N i j) c T) (eE n (fun i j=>y*N i j) c T) u v-eD c T*eE n (fun i j=>(x+y)*N i j) c T u v)*2^(T+1)≤(((T+1:Nat):Int)*((T+1:Nat):Int))*(eD c T*eD c T):=by
 have ex:∀z:Int,eE n (fun i j=>z*N i j) c T=fun i j=>qk (fun t=>(fr T t*z^t*c^(T-t))*z8 n N t i j) (T+1):=fun z=>by
  funext i j;exact ahv n z N c T i j
 rw[ex x,ex y,aGO N _ _ _ hv,ahv]
 have e1:eD c T*qk (fun t=>(fr T t*(x+y)^t*c^(T-t))*z8 n N t u v) (T+1)=qk (fun k=>qk (fun i=>(fr T i*x^i*c^(T-i))*(fr T (k-i)*y^(k-i)*c^(T-(k-i)))*z8 n N (i+(k-i)) u v) (k+1)) (T+1):=by
  rw[←q9]
  refine qu fun k hk=>?_
  have e2:qk (fun i=>(fr T i*x^i*c^(T-i))*(fr T (k-i)*y^(k-i)*c^(T-(k-i)))*z8 n N (i+(k-i)) u v) (k+1)=qk (fun i=>(fr T i*x^i)*(fr T (k-i)*y^(k-i))*(c^T*c^(T-k)*z8 n N k u v)) (k+1):=qu fun i hi=>by
   rw[show i+(k-i)=k by omega]
   have:c^(T-i)*c^(T-(k-i))=c^T*c^(T-k):=by rw[←Int.pow_add,←Int.pow_add];congr 1;omega
   have e3:fr T i*x^i*c^(T-i)*(fr T (k-i)*y^(k-i)*c^(T-(k-i)))*z8 n N k u v=(fr T i*x^i)*(fr T (k-i)*y^(k-i))*((c^(T-i)*c^(T-(k-i)))*z8 n N k u v):=by grind
   rw[e3,this]
  rw[e2,zE]
  have e4:=ba0 (T:=T) x y k (by omega)
  unfold cv at e4
  rw[e4]
  unfold eD;grind
 rw[e1]
 have hp:(0:Int)<2^(T+1):=Int.pow_pos (by omega)
 have hD:=Int.le_of_lt (Int.mul_pos (jy h.pos T) (jy h.pos T))
 have key:=al4 (f:=fun i j=>(fr T i*x^i*c^(T-i))*(fr T j*y^j*c^(T-j))*z8 n N (i+j) u v*2^(T+1)) (B:=eD c T*eD c T) hD (T+1) fun i j hi hj hij=>by
  have:=aO6 h hx hy (show i≤T by omega) (show j≤T by omega) hij hu hv
  rw[ji,yN (Int.le_of_lt hp)];exact this
 have f1:qk (fun i=>qk (fun j=>(fr T i*x^i*c^(T-i))*(fr T j*y^j*c^(T-j))*z8 n N (i+j) u v*2^(T+1)) (T+1)) (T+1)=qk (fun i=>qk (fun j=>(fr T i*x^i*c^(T-i))*(fr T j*y^j*c^(T-j))*z8 n N (i+j) u v) (T+1)) (T+1)*2^(T+1):=by
  rw[←zE];exact qu fun i _=>zE _ _ _
 have f2:qk (fun k=>qk (fun i=>(fr T i*x^i*c^(T-i))*(fr T (k-i)*y^(k-i)*c^(T-(k-i)))*z8 n N (i+(k-i)) u v*2^(T+1)) (k+1)) (T+1)=qk (fun k=>qk (fun i=>(fr T i*x^i*c^(T-i))*(fr T (k-i)*y^(k-i)*c^(T-(k-i)))*z8 n N (i+(k-i)) u v) (k+1)) (T+1)*2^(T+1):=by
  rw[←zE];exact qu fun i _=>zE _ _ _
 rw[f1,f2,←Int.sub_mul,ji,yN (Int.le_of_lt hp)]at key
 have e5:((T+1:Nat):Int)*(((T+1:Nat):Int)*(eD c T*eD c T))=(((T+1:Nat):Int)*((T+1:Nat):Int))*(eD c T*eD c T):=(Int.mul_assoc _ _ _).symm
 omega
end Go.Ab
namespace Go.Ab
/-! ### Squares,and what is bnr a multiple of one-/
def trI(n:Nat)(A:Nat→Nat→Int)(i j:Nat):Int:=if i<n∧j<n then A i j else 0
def sqI(n:Nat):Nat→(Nat→Nat→Int)→Nat→Nat→Int
 |0,M=>M
 |k+1,M=>jg n (sqI n k M) (sqI n k M)
def sqD:Nat→Int→Int
 |0,d=>d
 |k+1,d=>sqD k d*sqD k d
theorem jj{d:Int}(h:0<d):∀k,0<sqD k d
 |0=>h
 |k+1=>Int.mul_pos (jj h k) (jj h k)
def bnr(n:Nat)(M:Nat→Nat→Int)(D p q:Int):Prop:=∀u v,u<n→v<n→ab (M u v-D*idI u v)*q≤D*p
theorem ag0:∀m:Nat,8≤m→4*(m*m)≤2^m
 |0,h=>by omega
 |m+1,h=>by
  by_cases e:m=7
  ·subst e;decide
  ·have ih:=ag0 m (by omega)
   have h1:8*m≤m*m:=Nat.mul_le_mul_right m (by omega)
   rw[Nat.pow_succ]
   have e1:(m+1)*(m+1)=m*m+2*m+1:=by grind
   rw[e1];omega
theorem bkH(s K T0:Nat):∃T:Nat,T0≤T∧(6:Int)^s*(((T+1:Nat):Int)*((T+1:Nat):Int))*2^K<2^(T+1):=by
 refine⟨2*(8+3*s+K+T0)-1,by omega,?_⟩
 have hm:8≤8+3*s+K+T0:=by omega
 have h1:=ag0 _ hm
 rw[show 2*(8+3*s+K+T0)-1+1=(8+3*s+K+T0)+(8+3*s+K+T0) by omega]
 have h2:(6:Nat)^s≤2^(3*s):=by rw[Nat.pow_mul];exact Nat.pow_le_pow_left (by decide) s
 have h3:(2:Nat)^(3*s)*2^K<2^(8+3*s+K+T0):=by rw[←Nat.pow_add];exact Nat.pow_lt_pow_right (by decide) (by omega)
 generalize 8+3*s+K+T0=m at*
 have h4:(6:Nat)^s*((m+m)*(m+m))*2^K<2^(m+m):=by
  have e:(m+m)*(m+m)=4*(m*m):=by grind
  rw[e,Nat.pow_add]
  have g1:6^s*(4*(m*m))*2^K≤2^(3*s)*2^m*2^K:=Nat.mul_le_mul_right _ (Nat.mul_le_mul h2 h1)
  have g2:2^(3*s)*2^m*2^K=(2^(3*s)*2^K)*2^m:=by grind
  have g3:(2^(3*s)*2^K)*2^m<2^m*2^m:=Nat.mul_lt_mul_of_pos_right h3 (Nat.pow_pos (by decide))
  omega
 exact_mod_cast h4
end Go.Ab
namespace Go.Ab
open Go Go.Proofs
/-! ### Rational points of matrices of intervals-/
def inR(K:Nat)(s:SpV)(N D:Int):Prop:=inS K s (N*p2 K) D
theorem aWm{K j:Nat}{s:SpV}{N D:Int}(hs:s.eK K)(h:inR K s N D):inR (K+j) s N D:=by
 have:=aWj (j:=j) hs h
 rw[Int.mul_assoc,←zv]at this
 exact this
theorem SpV.eK.up{K K':Nat}{s:SpV}(hs:s.eK K)(h:K≤K'):s.eK K':=by
 obtain⟨a,b⟩:=hs
 exact⟨by omega,by omega⟩
theorem abC{K K':Nat}{s:SpV}{N D:Int}(hs:s.eK K)(h:K≤K')(hi:inR K s N D):inR K' s N D:=by
 have:=aWm (j:=K'-K) hs hi
 rwa[show K+(K'-K)=K' by omega]at this
theorem aWk{K:Nat}{s:SpV}{N D q:Int}(hq:0≤q)(h:inS K s N D):inS K s (N*q) (D*q):=by
 obtain⟨a,b⟩:=h
 have a':=Int.mul_le_mul_of_nonneg_right a hq
 have b':=Int.mul_le_mul_of_nonneg_right b hq
 rw[Int.mul_assoc]at a' b'
 exact⟨a',b'⟩
theorem aWn{K:Nat}{s:SpV}{N D q:Int}(hq:0≤q)(h:inR K s N D):inR K s (N*q) (D*q):=by
 have:=aWk hq h
 rw[Int.mul_right_comm]at this
 exact this
def rtM(n:Nat)(S:List SpV)(M:Nat→Nat→Int)(D:Int):Prop:=∃K:Nat,(∀i,i<n*n→(S.getD i sp0).eK K)∧∀i j,i<n→j<n→inR K (S.getD (i*n+j) sp0) (M i j) D
theorem abf{n K:Nat}{S:List SpV}{M:Nat→Nat→Int}{D:Int}(h:rtM n S M D)(hS:∀i,i<n*n→(S.getD i sp0).eK K)(hD:0<D){i j:Nat}(hi:i<n)(hj:j<n):inR K (S.getD (i*n+j) sp0) (M i j) D:=by
 obtain⟨K',h1,h2⟩:=h
 have hx:=qT hi hj
 have a:=abC (h1 _ hx) (Nat.le_max_right K K') (h2 i j hi hj)
 obtain⟨j',hj'⟩:∃j',max K K'=K+j':=⟨max K K'-K,by omega⟩
 rw[hj']at a
 obtain⟨b,c⟩:=a
 have e1:(S.getD (i*n+j) sp0).lo.val (K+j')=(S.getD (i*n+j) sp0).lo.val K*p2 j':=Yk (hS _ hx).1
 have e2:(S.getD (i*n+j) sp0).hi.val (K+j')=(S.getD (i*n+j) sp0).hi.val K*p2 j':=Yk (hS _ hx).2
 have hp:=qX j'
 rw[e1,zv]at b
 rw[e2,zv]at c
 constructor
 ·refine Int.le_of_mul_le_mul_right (a:=p2 j') ?_ hp
  have g1:(S.getD (i*n+j) sp0).lo.val K*p2 j'*D=(S.getD (i*n+j) sp0).lo.val K*D*p2 j':=Int.mul_right_comm _ _ _
  have g2:M i j*(p2 K*p2 j')=M i j*p2 K*p2 j':=(Int.mul_assoc _ _ _).symm
  omega
 ·refine Int.le_of_mul_le_mul_right (a:=p2 j') ?_ hp
  have g1:(S.getD (i*n+j) sp0).hi.val K*p2 j'*D=(S.getD (i*n+j) sp0).hi.val K*D*p2 j':=Int.mul_right_comm _ _ _
  have g2:M i j*(p2 K*p2 j')=M i j*p2 K*p2 j':=(Int.mul_assoc _ _ _).symm
  omega
theorem yQ{n:Nat}{S:List SpV}{M M':Nat→Nat→Int}{D:Int}(h:rtM n S M D)(e:∀i j,i<n→j<n→M i j=M' i j):rtM n S M' D:=by
 obtain⟨K,h1,h2⟩:=h
 exact⟨K,h1,fun i j hi hj=>by rw[←e i j hi hj];exact h2 i j hi hj⟩
theorem asC{n:Nat}{S S':List SpV}{M M':Nat→Nat→Int}{D D':Int}(h:rtM n S M D)(h':rtM n S' M' D'):∃K:Nat,((∀i,i<n*n→(S.getD i sp0).eK K)∧∀i j,i<n→j<n→inR K (S.getD (i*n+j) sp0) (M i j) D)∧((∀i,i<n*n→(S'.getD i sp0).eK K)∧∀i j,i<n→j<n→inR K (S'.getD (i*n+j) sp0) (M' i j) D'):=by
 obtain⟨K,h1,h2⟩:=h
 obtain⟨K',h3,h4⟩:=h'
 exact⟨max K K',⟨fun i hi=>(h1 i hi).up (Nat.le_max_left _ _),fun i j hi hj=>abC (h1 _ (qT hi hj)) (Nat.le_max_left _ _) (h2 i j hi hj)⟩,⟨fun i hi=>(h3 i hi).up (Nat.le_max_right _ _),fun i j hi hj=>abC (h3 _ (qT hi hj)) (Nat.le_max_right _ _) (h4 i j hi hj)⟩⟩
theorem ag3{n K:Nat}{S S':List SpV}{M M':Nat→Nat→Int}{D D':Int}(hD:0<D)(hD':0<D'){i j:Nat}(eS:∀i,i<n*n→(S.getD i sp0).eK K)(eS':∀i,i<n*n→(S'.getD i sp0).eK K)(h:∀i t,i<n→t<n→inR K (S.getD (i*n+t) sp0) (M i t) D)(h':∀t j,t<n→j<n→inR K (S'.getD (t*n+j) sp0) (M' t j) D')(hi:i<n)(hj:j<n):
  ∀k,k≤n→inR (K+K) (jA n S S' i j k) (qk (fun t=>M i t*M' t j) k) (D*D')∧(jA n S S' i j k).eK (K+K)
 |0,_=>by
  rw[Zb]
  have e:ex0.val (K+K)=0:=Zp _
  refine⟨⟨?_,?_⟩,⟨?_,?_⟩⟩
  ·show ex0.val (K+K)*(D*D')≤0*_;rw[e,Int.zero_mul,Int.zero_mul];exact Int.le_refl _
  ·show 0*_≤ex0.val (K+K)*(D*D');rw[e,Int.zero_mul,Int.zero_mul];exact Int.le_refl _
  ·show-((K+K:Nat):Int)≤0;omega
  ·show-((K+K:Nat):Int)≤0;omega
 |k+1,hk=>by
  obtain⟨h1,h2⟩:=ag3 hD hD' eS eS' h h' hi hj k (by omega)
  have ia:=qT hi (show k<n by omega)
  have ib:=qT (show k<n by omega) hj
  have t:=atB (eS _ ia) (eS' _ ib) hD hD' (h i k hi (by omega)) (h' k j (by omega) hj)
  have e:M i k*p2 K*(M' k j*p2 K)=M i k*M' k j*p2 (K+K):=by rw[zv];grind
  rw[e]at t
  have et:=SpV.times_eK (eS _ ia) (eS' _ ib)
  rw[Zc]
  refine⟨?_,SpV.plus_eK h2 et⟩
  have:=ahl h2 et h1 t
  rw[←Int.add_mul]at this
  exact this
theorem Jl{n:Nat}(hn:1≤n){S S':List SpV}{M M':Nat→Nat→Int}{D D':Int}(hD:0<D)(hD':0<D')(h:rtM n S M D)(h':rtM n S' M' D'):rtM n (qC n S S') (jg n M M') (D*D'):=by
 obtain⟨K,⟨a,b⟩,c,d⟩:=asC h h'
 have key:=fun i j (hi:i<n) (hj:j<n)=>ag3 hD hD' a c b d hi hj n (Nat.le_refl n)
 refine⟨K+K,fun i hi=>?_,fun i j hi hj=>?_⟩
 ·unfold qC
  rw[Xr hi]
  exact(key _ _ ((Nat.div_lt_iff_lt_mul (by omega)).2 hi) (Nat.mod_lt i (by omega))).2
 ·unfold qC
  rw[Xr (qT hi hj),(ahd hj).1,(ahd hj).2]
  exact(key i j hi hj).1
theorem JI{S S':List SpV}{i:Nat}(hi:i<S.length):(yW S S').getD i sp0=(S.getD i sp0).plus (S'.getD i sp0):=by
 unfold yW
 have r:(List.range S.length).getD i 0=i:=by rw[List.getD_eq_getElem?_getD,List.getElem?_range hi];rfl
 rw[zz (by rw[List.length_range];exact hi) 0,r]
theorem aGx{n:Nat}{S S':List SpV}{M M':Nat→Nat→Int}{D:Int}(hl:S.length=n*n)(h:rtM n S M D)(h':rtM n S' M' D):rtM n (yW S S') (fun i j=>M i j+M' i j) D:=by
 obtain⟨K,⟨a,b⟩,c,d⟩:=asC h h'
 refine⟨K,fun i hi=>?_,fun i j hi hj=>?_⟩
 ·rw[JI (by omega)]
  exact SpV.plus_eK (a i hi) (c i hi)
 ·have hx:=qT hi hj
  rw[JI (by omega)]
  have:=ahl (a _ hx) (c _ hx) (b i j hi hj) (d i j hi hj)
  rw[←Int.add_mul]at this
  exact this
theorem aUQ{n:Nat}{S:List SpV}{M:Nat→Nat→Int}{D q:Int}(hq:0≤q)(h:rtM n S M D):rtM n S (fun i j=>M i j*q) (D*q):=by
 obtain⟨K,a,b⟩:=h
 exact⟨K,a,fun i j hi hj=>aWn hq (b i j hi hj)⟩
theorem Y8{n:Nat}{S:List SpV}{M M':Nat→Nat→Int}{D D':Int}{f:SpV→SpV}(hl:S.length=n*n)(h:rtM n S M D)(K0:Nat)(hf:∀K s N N',K0≤K→s.eK K→inR K s N D→(∃i j,i<n∧j<n∧N=M i j∧N'=M' i j)→inR K (f s) N' D'∧(f s).eK K)(hn:1≤n):rtM n (S.map f) M' D':=by
 obtain⟨K,a,b⟩:=h
 have key:=fun i j (hi:i<n) (hj:j<n)=>hf (max K K0) (S.getD (i*n+j) sp0) (M i j) (M' i j) (Nat.le_max_right _ _) ((a _ (qT hi hj)).up (Nat.le_max_left _ _)) (abC (a _ (qT hi hj)) (Nat.le_max_left _ _) (b i j hi hj)) ⟨i,j,hi,hj,rfl,rfl⟩
 refine⟨max K K0,fun i hi=>?_,fun i j hi hj=>?_⟩
 ·rw[zz (by omega) sp0]
  have:=(key (i/n) (i % n) ((Nat.div_lt_iff_lt_mul (by omega)).2 hi) (Nat.mod_lt i (by omega))).2
  rwa[ahn]at this
 ·rw[zz (by rw[hl];exact qT hi hj) sp0]
  exact(key i j hi hj).1
theorem aIx{K k B:Nat}{s:SpV}{N D:Int}(hk:k≠0)(hK:B≤K)(hD:0≤D)(es:s.eK K)(h:inS K s N D):inS K (s.divd k (-(B:Int))) N (D*k)∧(s.divd k (-(B:Int))).eK K:=by
 have hn:(exN k).m≠0:=hk
 have hv:(exN k).val 0=k:=by show sv false k*2^((0:Int)+((0:Nat):Int)).toNat=k;simp[sv]
 have hp:0<p2 K:=qX K
 have bd:∀(x:ExV) (md:Int), -(K:Int)≤(x.over (exN k) (-(B:Int)) md).e:=fun x md=>by show-(K:Int)≤ -(B:Int);omega
 have d:∀x:ExV, -(K:Int)≤x.e→(x.over (exN k) (-(B:Int)) 3).val K*k≤x.val K∧x.val K≤(x.over (exN k) (-(B:Int)) 2).val K*k:=fun x hx=>by
  have:=(aGU (x:=x) (y:=exN k) (low:= -(B:Int)) (Kx:=K) (Ky:=0) (Kz:=K) hn hx (by show-((0:Nat):Int)≤0;omega) (by omega)).1 rfl
  rw[hv,Nat.zero_add]at this
  exact⟨Int.le_of_mul_le_mul_right this.1 hp,Int.le_of_mul_le_mul_right this.2 hp⟩
 have e3:∀md:Int,Go.Ab.eK K (qZ (fun x y=>x.over y (-(B:Int)) md) s ⟨exN k,exN k⟩):=fun md x hx=>by
  simp only[qZ,List.mem_cons,List.not_mem_nil,or_false]at hx
  rcases hx with rfl|rfl|rfl|rfl<;>exact bd _ _
 obtain⟨l1,l2⟩:=Zj (e3 3)
 obtain⟨m1,m2⟩:=Jv (e3 2)
 have a:=l1 (s.lo.over (exN k) (-(B:Int)) 3) (by simp[qZ])
 have b:=m1 (s.hi.over (exN k) (-(B:Int)) 2) (by simp[qZ])
 have c:=(d s.lo es.1).1
 have f:=(d s.hi es.2).2
 have hk0:(0:Int)≤k:=by omega
 have a':=Int.le_trans (Int.mul_le_mul_of_nonneg_right a hk0) c
 have b':=Int.le_trans f (Int.mul_le_mul_of_nonneg_right b hk0)
 have a2:=Int.mul_le_mul_of_nonneg_right a' hD
 have b2:=Int.mul_le_mul_of_nonneg_right b' hD
 obtain⟨h1,h2⟩:=h
 refine⟨⟨?_,?_⟩,l2,m2⟩
 ·show(qM (qZ (fun x y=>x.over y (-(B:Int)) 3) s ⟨exN k,exN k⟩)).val K*(D*k)≤N
  rw[Int.mul_comm D,←Int.mul_assoc];omega
 ·show N≤(ze (qZ (fun x y=>x.over y (-(B:Int)) 2) s ⟨exN k,exN k⟩)).val K*(D*k)
  rw[Int.mul_comm D,←Int.mul_assoc];omega
theorem ag5{K:Nat}{x:ExV}{low md:Int}(hx: -(K:Int)≤x.e)(hl: -(K:Int)≤low): -(K:Int)≤(x.rnd low md).e:=by
 show-(K:Int)≤roE x.m x.e low
 unfold roE;split<;>omega
theorem aQg{K:Nat}{s:SpV}{N D low:Int}(hl: -(K:Int)≤low)(hD:0≤D)(es:s.eK K)(h:inS K s N D):inS K (s.out low) N D∧(s.out low).eK K:=by
 have r1:=(aKz es.1 hl).1
 have r2:=(aKz es.2 hl).2
 obtain⟨a,b⟩:=h
 exact⟨⟨Int.le_trans (Int.mul_le_mul_of_nonneg_right r1 hD) a,Int.le_trans b (Int.mul_le_mul_of_nonneg_right r2 hD)⟩,ag5 es.1 hl,ag5 es.2 hl⟩
theorem aba{K B:Nat}(h:B≤K):(ex1.shift (-(B:Int))).val K=p2 (K-B):=by
 show sv false 1*2^(0+ -(B:Int)+(K:Int)).toNat=_
 rw[show(0+ -(B:Int)+(K:Int)).toNat=K-B by omega];simp[sv,p2]
theorem aSi{K B:Nat}{s:SpV}{N D N' D':Int}(hB:B≤K)(hD:0<D)(hD':0<D')(es:s.eK K)(h:inR K s N D)(hg:2^B*ab (N'*D-N*D')≤D'*D):inR K (s.fat (ex1.shift (-(B:Int)))) N' D'∧(s.fat (ex1.shift (-(B:Int)))).eK K:=by
 have ey: -(K:Int)≤(ex1.shift (-(B:Int))).e:=by show-(K:Int)≤0+ -(B:Int);omega
 have e1:(s.fat (ex1.shift (-(B:Int)))).lo.val K=s.lo.val K-p2 (K-B):=by
  show(s.lo.plus (ex1.shift (-(B:Int))).neg).val K=_
  rw[jF (y:=ExV.neg (ex1.shift (-(B:Int)))) es.1 ey,as6,aba hB];omega
 have e2:(s.fat (ex1.shift (-(B:Int)))).hi.val K=s.hi.val K+p2 (K-B):=by
  show(s.hi.plus (ex1.shift (-(B:Int)))).val K=_
  rw[jF es.2 ey,aba hB]
 have ep:p2 K=p2 B*p2 (K-B):=QP (by omega)
 have hp:=qX (K-B)
 have hg2:p2 K*ab (N'*D-N*D')≤D'*D*p2 (K-B):=by
  have:=Int.mul_le_mul_of_nonneg_right hg (Int.le_of_lt hp)
  rw[ep]
  have e:p2 B*p2 (K-B)*ab (N'*D-N*D')=2^B*ab (N'*D-N*D')*p2 (K-B):=by
   show(2:Int)^B*p2 (K-B)*_=_
   grind
  omega
 have hpK:=qX K
 have g1:p2 K*(N'*D-N*D')≤p2 K*ab (N'*D-N*D'):=Int.mul_le_mul_of_nonneg_left (by unfold ab;omega) (Int.le_of_lt hpK)
 have g2:p2 K* -(N'*D-N*D')≤p2 K*ab (N'*D-N*D'):=Int.mul_le_mul_of_nonneg_left (by unfold ab;omega) (Int.le_of_lt hpK)
 obtain⟨a,b⟩:=h
 have a':=Int.mul_le_mul_of_nonneg_right a (Int.le_of_lt hD')
 have b':=Int.mul_le_mul_of_nonneg_right b (Int.le_of_lt hD')
 refine⟨⟨?_,?_⟩,Jo (y:=ExV.neg (ex1.shift (-(B:Int)))) es.1 ey,Jo es.2 ey⟩
 ·rw[e1]
  refine Int.le_of_mul_le_mul_right (a:=D) ?_ hD
  have q1:(s.lo.val K-p2 (K-B))*D'*D=s.lo.val K*D*D'-D'*D*p2 (K-B):=by grind
  have q2:N'*p2 K*D=N*p2 K*D'+p2 K*(N'*D-N*D'):=by grind
  have q3:p2 K* -(N'*D-N*D')= -(p2 K*(N'*D-N*D')):=by grind
  omega
 ·rw[e2]
  refine Int.le_of_mul_le_mul_right (a:=D) ?_ hD
  have q1:(s.hi.val K+p2 (K-B))*D'*D=s.hi.val K*D*D'+D'*D*p2 (K-B):=by grind
  have q2:N'*p2 K*D=N*p2 K*D'+p2 K*(N'*D-N*D'):=by grind
  omega
theorem aGy{n k B:Nat}{S:List SpV}{M:Nat→Nat→Int}{D:Int}(hn:1≤n)(hk:k≠0)(hD:0≤D)(hl:S.length=n*n)(h:rtM n S M D):rtM n (S.map fun s=>s.divd k (-(B:Int))) M (D*k):=
 Y8 hl h B (fun K s N N' hK es hi ⟨i,j,_,_,e1,e2⟩=>by
  subst e1 e2
  exact aIx hk hK hD es hi) hn
theorem asD{n B:Nat}{S:List SpV}{M:Nat→Nat→Int}{D:Int}(hn:1≤n)(hD:0≤D)(hl:S.length=n*n)(h:rtM n S M D):rtM n (S.map fun s=>s.out (-(B:Int))) M D:=
 Y8 hl h B (fun K s N N' hK es hi ⟨i,j,_,_,e1,e2⟩=>by
  subst e1 e2
  exact aQg (by omega) hD es hi) hn
theorem aPw{n B:Nat}{S:List SpV}{M M':Nat→Nat→Int}{D D':Int}(hn:1≤n)(hD:0<D)(hD':0<D')(hl:S.length=n*n)(h:rtM n S M D)(hg:∀i j,i<n→j<n→2^B*ab (M' i j*D-M i j*D')≤D'*D):rtM n (S.map fun s=>s.fat (ex1.shift (-(B:Int)))) M' D':=
 Y8 hl h B (fun K s N N' hK es hi ⟨i,j,h1,h2,e1,e2⟩=>by
  subst e1 e2
  exact aSi hK hD hD' es hi (hg i j h1 h2)) hn
theorem aKu{n K:Nat}{L:List ExV}(hl:L.length=n*n)(hK:eK K L):rtM n (L.map ptS) (fun i j=>mv K L n i j) (p2 K):=by
 refine⟨K,fun i hi=>?_,fun i j hi hj=>?_⟩
 ·rw[zz (by omega) ex0]
  have:=ZC hK (i:=i) (by omega)
  exact⟨this,this⟩
 ·rw[zz (by rw[hl];exact qT hi hj) ex0]
  exact aWl
end Go.Ab
namespace Go.Ab
open Go Go.Proofs
/-! ### What is held has all long sums of the exponential's row-/
theorem aKW:∀k:Nat,((fct k:Nat):Int)=fr k 0
 |0=>rfl
 |k+1=>by
  rw[afW (show 0≤k by omega),←aKW k]
  show(((k+1)*fct k:Nat):Int)=_
  rw[Int.natCast_mul,Int.mul_comm];rfl
theorem be8{B:Nat}(hB:B≤148):2^B≤fct (tmF B+1)*2^tmF B:=by
 have h:fct 41*2^40≥2^148:=by decide+kernel
 have key:∀f k:Nat,k≤40→41≤k+f→2^B≤fct (tmS B k f+1)*2^tmS B k f:=by
  intro f
  induction f with
  |zero=>intro k _ _;omega
  |succ f ih=>
   intro k hk hf
   unfold tmS
   split
   ·rename_i c
    by_cases e:k=40
    ·subst e
     have c:fct 41*2^40<2^B:=c
     have:=Nat.pow_le_pow_right (n:=2) (by decide) hB
     omega
    ·exact ih (k+1) (by omega) (by omega)
   ·rename_i c
    exact Nat.le_of_not_lt c
 exact key 402 1 (by omega) (by omega)
theorem aKv{n:Nat}:rtM n ((gId n).map ptS) idI 1:=by
 have h:=aKu (n:=n) (K:=0) (L:=gId n) YB (fun x hx=>by have:=(aWu x hx).2.1;omega)
 refine yQ h fun i j hi hj=>?_
 unfold mv gId
 rw[aHI hi hj]
 unfold idF idI
 split
 ·decide+kernel
 ·exact Zp 0
theorem atH{n B:Nat}{b:List SpV}{N:Nat→Nat→Int}{c:Int}(hn:1≤n)(hc:0<c)(hl:b.length=n*n)(hb:rtM n b N c):∀i:Nat,rtM n (gSt n b (-(B:Int)) i).1 (eE n N c i) (eD c i)∧rtM n (gSt n b (-(B:Int)) i).2 (z8 n N i) (eD c i)
 |0=>by
  have e:eD c 0=1:=by simp[eD,fr]
  rw[e]
  exact⟨yQ aKv fun i j _ _=>(aSq n N c i j).symm,aKv⟩
 |i+1=>by
  obtain⟨h1,h2⟩:=atH hn hc hl hb i
  have hD:=jy hc i
  have t:=Jl hn hD hc h2 hb
  have d:=aGy (B:=B) (k:=i+1) hn (by omega) (Int.le_of_lt (Int.mul_pos hD hc)) zI t
  have eD1:eD c i*c*((i+1:Nat):Int)=eD c (i+1):=by rw[XE];rw[Int.natCast_add];grind
  rw[eD1]at d
  refine⟨?_,d⟩
  have s:=aUQ (q:=((i:Int)+1)*c) (Int.mul_nonneg (by omega) (Int.le_of_lt hc)) h1
  have e2:eD c i*(((i:Int)+1)*c)=eD c (i+1):=by rw[XE];grind
  rw[e2]at s
  refine yQ (aGx (zW i).1 s d) fun u v hu hv=>?_
  rw[aub]
  show eE n N c i u v*(((i:Int)+1)*c)+jg n (z8 n N i) N u v=_
  rw[Int.mul_comm];rfl
theorem aRr{n B:Nat}{b:List SpV}{N:Nat→Nat→Int}{c:Int}(hn:1≤n)(hB:B≤148)(h:smallI n N c)(hl:b.length=n*n)(hb:rtM n b N c){T:Nat}(hT:tmF B≤T):rtM n (gFt n b B) (eE n N c T) (eD c T):=by
 have hW:(2:Int)^B≤fr (tmF B+1) 0*2^tmF B:=by
  rw[←aKW]
  have:=be8 hB
  exact_mod_cast this
 exact aPw hn (jy h.pos _) (jy h.pos T) (zW _).1 (atH hn h.pos hl hb (tmF B)).1 fun i j hi hj=>aWt h hT hW hi hj
theorem atI{n B:Nat}{F:List SpV}{M:Nat→Nat→Int}{D:Int}(hn:1≤n)(hD:0<D)(hF:F.length=n*n)(h:rtM n F M D):∀k:Nat,rtM n (gSq n (-(B:Int)) F k) (sqI n k M) (sqD k D)
 |0=>h
 |k+1=>by
  have ih:=atI (B:=B) hn hD hF h k
  exact asD hn (Int.le_of_lt (Int.mul_pos (jj hD k) (jj hD k))) zI (Jl hn (jj hD k) (jj hD k) ih ih)
theorem aWx{n s:Nat}{L:List ExV}:(gB n L s).length=n*n:=by
 show(List.map _ _).length=n*n
 rw[List.length_map];exact z7
theorem Xs{n B:Nat}{b:List SpV}:(gFt n b B).length=n*n:=by
 show(List.map _ _).length=n*n
 rw[List.length_map];exact(zW _).1
theorem abE{n s B:Nat}{L:List ExV}{low:Int}{N:Nat→Nat→Int}{c:Int}(hn:1≤n)(hB:B≤148)(hlo:low≤0)(h:smallI n N c)(hb:rtM n (gB n L s) N c){T:Nat}(hT:tmF B≤T):rtM n (yb n L s B low) (sqI n s (eE n N c T)) (sqD s (eD c T)):=by
 have g:=atI (B:=B) hn (jy h.pos T) Xs (aRr hn hB h aWx hb hT) s
 have o:=asD (B:=(4-low).toNat) hn (Int.le_of_lt (jj (jy h.pos T) s)) (QC Xs s) g
 have e: -(((4-low).toNat:Nat):Int)=low-4:=by omega
 rw[e]at o
 exact o
theorem aWv{n s:Nat}{L:List ExV}{K:Nat}(hl:L.length=n*n)(hK:eK K L):rtM n (gB n L s) (fun i j=>mv K L n i j) (p2 (K+s)):=by
 have ey: -((s:Nat):Int)≤(ex1.shift (-(s:Int))).e:=by show-(s:Int)≤0+ -(s:Int);omega
 have hs:∀i j,i<n→j<n→ -((K+s:Nat):Int)≤((L.getD (i*n+j) ex0).times (ex1.shift (-(s:Int)))).e:=fun i j hi hj=>by
  have a:=ZC hK (i:=i*n+j) (by rw[hl];exact qT hi hj)
  show _≤(L.getD (i*n+j) ex0).e+(ex1.shift (-(s:Int))).e
  omega
 have hK2:eK (K+s) (qF n L (ex1.shift (-(s:Int)))):=fun x hx=>by
  obtain⟨t,ht,rfl⟩:=List.mem_map.1 hx
  have ht:=List.mem_range.1 ht
  have hn:0<n:=by
   rcases Nat.eq_zero_or_pos n with e|e
   ·subst e;simp at ht
   ·exact e
  exact hs _ _ (Nat.div_lt_of_lt_mul ht) (Nat.mod_lt t hn)
 refine yQ (aKu z7 hK2) fun i j hi hj=>?_
 have a:=ZC hK (i:=i*n+j) (by rw[hl];exact qT hi hj)
 show(List.getD (gl n _ (n*n)) (i*n+j) ex0).val (K+s)=_
 rw[aHI hi hj,yO a ey,aba (Nat.le_refl s),Nat.sub_self]
 show _*p2 0=_
 rw[show p2 0=1 by decide,Int.mul_one];rfl
theorem aTY{K:Nat}{y:ExV}(h0:y.m≠0)(hs:y.s=false)(hK: -(K:Int)≤y.e)(s:Nat)(ht:y.top+1≤(s:Int)):2*y.val K<p2 (K+s):=by
 have h1:y.top=(bl y.m:Int)+y.e:=by unfold ExV.top;rw[if_neg h0]
 have h2:y.m<2^bl y.m:=zf.1 (Nat.le_refl _)
 have h3:y.val K=(y.m:Int)*p2 (y.e+(K:Int)).toNat:=by
  show sv y.s y.m*2^(y.e+(K:Int)).toNat=_
  rw[hs];simp[sv,p2]
 have hp:=qX (y.e+(K:Int)).toNat
 have h4:(y.m:Int)*p2 (y.e+(K:Int)).toNat<p2 (bl y.m)*p2 (y.e+(K:Int)).toNat:=Int.mul_lt_mul_of_pos_right (by unfold p2;exact_mod_cast h2) hp
 rw[←zv]at h4
 have h5:p2 (K+s)=p2 (bl y.m+(y.e+(K:Int)).toNat+1)*p2 (K+s-(bl y.m+(y.e+(K:Int)).toNat+1)):=QP (by omega)
 have h6:=qX (K+s-(bl y.m+(y.e+(K:Int)).toNat+1))
 have h7:p2 (bl y.m+(y.e+(K:Int)).toNat+1)=2*p2 (bl y.m+(y.e+(K:Int)).toNat):=by rw[zv];show _*2=_;omega
 have h8:=qX (bl y.m+(y.e+(K:Int)).toNat)
 have h9:p2 (bl y.m+(y.e+(K:Int)).toNat+1)*1≤p2 (bl y.m+(y.e+(K:Int)).toNat+1)*p2 (K+s-(bl y.m+(y.e+(K:Int)).toNat+1)):=Int.mul_le_mul_of_nonneg_left (by omega) (by omega)
 omega
theorem aGt{n:Nat}{L:List ExV}{K s:Nat}(hl:L.length=n*n)(hK:eK K L)(hn0:(qS n L n).s=false)(hs:(qS n L n).m≠0→(qS n L n).top+1≤(s:Int)):smallI n (fun i j=>mv K L n i j) (p2 (K+s)):=by
 obtain⟨h1,h2⟩:=jT hK hl n (Nat.le_refl n)
 refine⟨qX _,?_⟩
 have e:nrm (fun i j=>mv K L n i j) n=(qS n L n).val K:=h1.symm
 rw[e]
 have hp:=qX (K+s)
 by_cases h0:(qS n L n).m=0
 ·have:(qS n L n).val K=0:=by
   show sv _ (qS n L n).m*_=0
   rw[h0];simp[sv]
  omega
 ·exact Int.le_of_lt (aTY h0 hn0 h2 s (hs h0))
end Go.Ab
namespace Go.Ab
open Go Go.Proofs
/-! ### What is held is always told:how great its ends are-/
theorem aKw(s:Bool)(a b:Nat)(md:Int)(hb:0<b):rq s a b md*b≤a+b∧a≤rq s a b md*b+b:=by
 have h1:=Nat.div_add_mod a b
 have h2:=Nat.mod_lt a hb
 have h3:a/b*b=b*(a/b):=Nat.mul_comm _ _
 have h4:(a/b+1)*b=b*(a/b)+b:=by rw[Nat.add_mul,Nat.one_mul,Nat.mul_comm]
 unfold rq
 split
 ·omega
 ·split<;>omega
theorem aKo(s:Bool):ab (sv s 1)=1:=by unfold ab;rw[Yl];rfl
theorem aGV{x y:ExV}{low md:Int}{Kx Ky Kz:Nat}(hy0:y.m≠0)(hx: -(Kx:Int)≤x.e)(hy: -(Ky:Int)≤y.e)(hz: -(Kz:Int)≤low):
  ab ((x.over y low md).val Kz*y.val Ky*p2 Kx)≤ab (x.val Kx)*p2 (Ky+Kz)+ab (y.val Ky)*p2 ((low+Kz).toNat+Kx):=by
 obtain⟨a,b,f,hb,hf,e1,e2,e3⟩:=Xe (mode:=md) hy0 hx hy hz
 obtain⟨h1, -⟩:=aKw (x.s != y.s) a b md hb
 have e2':ab (x.val Kx)*p2 (Ky+Kz)=a*f:=by
  rw[←yN (Int.le_of_lt (qX (Ky+Kz))),←ji,e2,ji,aKo,Int.one_mul]
  exact yN (Int.mul_nonneg (by omega) (by omega))
 have e3':ab (y.val Ky)*p2 ((low+Kz).toNat+Kx)=b*f:=e3
 rw[e1,e2',e3',ji,aKo,Int.one_mul,yN (Int.mul_nonneg (by omega) (by omega)),←Int.add_mul]
 exact Int.mul_le_mul_of_nonneg_right (by omega) (by omega)
theorem asI{K:Nat}{x:ExV}{low md:Int}(hx: -(K:Int)≤x.e)(hl: -(K:Int)≤low):ab ((x.rnd low md).val K)≤ab (x.val K)+p2 (low+(K:Int)).toNat:=by
 have hpl:=qX (low+(K:Int)).toNat
 obtain⟨s,m,e⟩:=x
 dsimp only at hx
 by_cases h:low≤e∨m=0
 ·have:ExV.rnd ⟨s,m,e⟩ low md=⟨s,m,e⟩:=by
   unfold ExV.rnd roS roM roE
   dsimp only
   rw[if_pos h,if_pos h,if_pos h]
  rw[this];omega
 ·have hv:(ExV.rnd ⟨s,m,e⟩ low md).val K=sv s (rq s m (2^(low-e).toNat) md*2^(low-e).toNat)*2^(e+(K:Int)).toNat:=by
   unfold ExV.rnd roS roM roE ExV.val
   dsimp only
   rw[if_neg h,if_neg h,if_neg h,abN]
   unfold dv
   rw[agY,Int.natCast_pow,Int.mul_assoc]
   congr 1
   show _=(2:Int)^_*_
   rw[←Int.pow_add]
   congr 1
   omega
  have hx2:(ExV.mk s m e).val K=sv s m*2^(e+(K:Int)).toNat:=rfl
  have ha:∀q:Nat,ab (sv s q)=q:=fun q=>by unfold ab;rw[Yl]
  have hpe:(0:Int)<2^(e+(K:Int)).toNat:=Int.pow_pos (by omega)
  obtain⟨r1, -⟩:=aKw s m (2^(low-e).toNat) md (Nat.pow_pos (by decide))
  rw[hv,hx2,ji,ji,ha,ha,yN (Int.le_of_lt hpe)]
  have e4:p2 (low+(K:Int)).toNat=((2^(low-e).toNat:Nat):Int)*2^(e+(K:Int)).toNat:=by
   rw[Int.natCast_pow]
   show(2:Int)^_=(2:Int)^_*_
   rw[←Int.pow_add]
   congr 1
   omega
  rw[e4,←Int.add_mul]
  exact Int.mul_le_mul_of_nonneg_right (by omega) (Int.le_of_lt hpe)
theorem Xx{F:ExV→ExV→ExV}(hF:∀m x,F m x=m∨F m x=x):∀(l:List ExV) (m:ExV),l.foldl F m∈m::l
 | [],m=>List.mem_cons_self ..
 |y::l,m=>by
  have h:=Xx hF l (F m y)
  rcases List.mem_cons.1 h with h|h
  ·rw[List.foldl_cons,h]
   rcases hF m y with e|e
   ·rw[e];exact List.mem_cons_self ..
   ·rw[e];exact List.mem_cons_of_mem _ (List.mem_cons_self ..)
  ·exact List.mem_cons_of_mem _ (List.mem_cons_of_mem _ h)
theorem Yz{l:List ExV}(h:l≠[]):qM l∈l:=by
 cases l with
 |nil=>exact absurd rfl h
 |cons y l=>exact Xx QV l y
theorem abu{l:List ExV}(h:l≠[]):ze l∈l:=by
 cases l with
 |nil=>exact absurd rfl h
 |cons y l=>exact Xx Z0 l y
def spA(K:Nat)(s:SpV)(q:Int):Prop:=s.eK K∧ab (s.lo.val K)≤q∧ab (s.hi.val K)≤q
theorem asp{K K':Nat}{s t:SpV}{q q':Int}(h:spA K s q)(h':spA K' t q'):spA (K+K') (s.times t) (q*q'):=by
 obtain⟨⟨e1,e2⟩,a1,a2⟩:=h
 obtain⟨⟨f1,f2⟩,b1,b2⟩:=h'
 have hq:0≤q:=Int.le_trans (anm _) a1
 have key:∀x∈qZ ExV.times s t,ab (x.val (K+K'))≤q*q':=fun x hx=>by
  have m:∀x y:ExV, -(K:Int)≤x.e→ -(K':Int)≤y.e→ab (x.val K)≤q→ab (y.val K')≤q'→ab ((x.times y).val (K+K'))≤q*q':=fun x y hx hy h1 h2=>by
   rw[yO hx hy,ji]
   exact Int.le_trans (Int.mul_le_mul_of_nonneg_right h1 (anm _)) (Int.mul_le_mul_of_nonneg_left h2 hq)
  simp only[qZ,List.mem_cons,List.not_mem_nil,or_false]at hx
  rcases hx with rfl|rfl|rfl|rfl
  ·exact m _ _ e1 f1 a1 b1
  ·exact m _ _ e1 f2 a1 b2
  ·exact m _ _ e2 f1 a2 b1
  ·exact m _ _ e2 f2 a2 b2
 exact⟨SpV.times_eK ⟨e1,e2⟩ ⟨f1,f2⟩,key _ (Yz (by simp[qZ])),key _ (abu (by simp[qZ]))⟩
theorem ag1{K:Nat}{s t:SpV}{q q':Int}(h:spA K s q)(h':spA K t q'):spA K (s.plus t) (q+q'):=by
 obtain⟨e,a1,a2⟩:=h
 obtain⟨f,b1,b2⟩:=h'
 refine⟨SpV.plus_eK e f,?_,?_⟩
 ·show ab ((s.lo.plus t.lo).val K)≤_
  rw[jF e.1 f.1]
  have:=acm (s.lo.val K) (t.lo.val K)
  omega
 ·show ab ((s.hi.plus t.hi).val K)≤_
  rw[jF e.2 f.2]
  have:=acm (s.hi.val K) (t.hi.val K)
  omega
theorem ag2{K:Nat}{s:SpV}{q q':Int}(h:spA K s q)(hq:q≤q'):spA K s q':=⟨h.1,Int.le_trans h.2.1 hq,Int.le_trans h.2.2 hq⟩
theorem asw{n K K':Nat}{S S':List SpV}{a b:Nat→Nat→Int}{i j:Nat}(h:∀t,t<n→spA K (S.getD (i*n+t) sp0) (a i t))(h':∀t,t<n→spA K' (S'.getD (t*n+j) sp0) (b t j)):∀k,k≤n→spA (K+K') (jA n S S' i j k) (qk (fun t=>a i t*b t j) k)
 |0,_=>by
  rw[Zb]
  have e:ex0.val (K+K')=0:=Zp _
  refine⟨⟨?_,?_⟩,?_,?_⟩
  ·show-((K+K':Nat):Int)≤0;omega
  ·show-((K+K':Nat):Int)≤0;omega
  ·show ab (ex0.val (K+K'))≤0;rw[e];decide
  ·show ab (ex0.val (K+K'))≤0;rw[e];decide
 |k+1,hk=>by
  rw[Zc]
  exact ag1 (asw h h' k (by omega)) (asp (h k (by omega)) (h' k (by omega)))
def mgA(n K:Nat)(S:List SpV)(q:Int):Prop:=∀i,i<n*n→spA K (S.getD i sp0) q
theorem atc{n K K':Nat}{S:List SpV}{q q':Int}{f:SpV→SpV}(hl:S.length=n*n)(h:mgA n K S q)(hf:∀s,spA K s q→spA K' (f s) q'):mgA n K' (S.map f) q':=fun i hi=>by
 rw[zz (by omega) sp0]
 exact hf _ (h i hi)
theorem JN{n i:Nat}(hi:i<n*n):i/n<n∧i % n<n:=by
 have hn:0<n:=by
  rcases Nat.eq_zero_or_pos n with e|e
  ·subst e;simp at hi
  ·exact e
 exact⟨(Nat.div_lt_iff_lt_mul hn).2 hi,Nat.mod_lt i hn⟩
theorem aHo{n B Kb k:Nat}{S:List SpV}{X:List ExV}{m:Int}(hk:k≠0)(hX:X.length=n*n)(eX:eK Kb X)(hs:smallI n (fun i j=>mv Kb X n i j) (p2 Kb))(h:mgA n B S m)(hm:0≤m):
  mgA n B ((qC n S (X.map ptS)).map fun s=>s.divd k (-(B:Int))) (m/2+1):=by
 have hT:∀i,i<n*n→∃q:Int,2*q≤m*p2 Kb∧spA (B+Kb) ((qC n S (X.map ptS)).getD i sp0) q:=fun i hi=>by
  obtain⟨h1,h2⟩:=JN hi
  refine⟨qk (fun t=>m*ab (mv Kb X n t (i % n))) n,?_,?_⟩
  ·rw[q9]
   have c1:qk (fun t=>ab (mv Kb X n t (i % n))) n≤nrm (fun i j=>mv Kb X n i j) n:=Xf (fun i j=>mv Kb X n i j) h2
   have c2:=hs.le
   have c3:=Int.mul_le_mul_of_nonneg_left (show 2*qk (fun t=>ab (mv Kb X n t (i % n))) n≤p2 Kb by omega) hm
   rw[Int.mul_left_comm]at c3
   exact c3
  ·unfold qC
   rw[Xr hi]
   refine asw (a:=fun _ _=>m) (b:=fun t j=>ab (mv Kb X n t j)) (fun t ht=>h _ (qT h1 ht)) (fun t ht=>?_) n (Nat.le_refl n)
   have hx:=qT ht h2
   rw[zz (by rw[hX];exact hx) ex0]
   have e:=ZC eX (i:=t*n+i % n) (by rw[hX];exact hx)
   exact⟨⟨e,e⟩,Int.le_refl _,Int.le_refl _⟩
 intro i hi
 obtain⟨q,hq,hsp⟩:=hT i hi
 rw[zz (by show i<(gly _ _ _).length;rw[zI];exact hi) sp0]
 generalize (qC n S (X.map ptS)).getD i sp0=s at*
 obtain⟨es,a1,a2⟩:=hsp
 have hn:(exN k).m≠0:=hk
 have hv:(exN k).val 0=k:=by show sv false k*2^((0:Int)+((0:Nat):Int)).toNat=k;simp[sv]
 have key:∀(x:ExV) (md:Int), -((B+Kb:Nat):Int)≤x.e→ab (x.val (B+Kb))≤q→ab ((x.over (exN k) (-(B:Int)) md).val B)≤m/2+1:=fun x md hx hxq=>by
  have:=aGV (md:=md) (x:=x) (y:=exN k) (low:= -(B:Int)) (Kx:=B+Kb) (Ky:=0) (Kz:=B) hn hx (by show-((0:Nat):Int)≤0;omega) (by omega)
  rw[hv,Nat.zero_add,show(-(B:Int)+(B:Int)).toNat+(B+Kb)=B+Kb by omega,ji,ji,yN (show(0:Int)≤k by omega),yN (Int.le_of_lt (qX _)),zv]at this
  generalize ab ((x.over (exN k) (-(B:Int)) md).val B)=r at*
  have hpB:=qX B
  have hpK:=qX Kb
  have s1:ab (x.val (B+Kb))*p2 B≤q*p2 B:=Int.mul_le_mul_of_nonneg_right hxq (Int.le_of_lt hpB)
  have s2:2*(q*p2 B)≤m*p2 Kb*p2 B:=by
   have:=Int.mul_le_mul_of_nonneg_right hq (Int.le_of_lt hpB)
   rw[Int.mul_assoc 2]at this;exact this
  have s3:(2*r*k)*(p2 B*p2 Kb)≤(m+2*k)*(p2 B*p2 Kb):=by
   have e1:(2*r*k)*(p2 B*p2 Kb)=2*(r*k*(p2 B*p2 Kb)):=by grind
   have e2:(m+2*k)*(p2 B*p2 Kb)=m*p2 Kb*p2 B+2*(k*(p2 B*p2 Kb)):=by grind
   omega
  have s4:=Int.le_of_mul_le_mul_right s3 (Int.mul_pos hpB hpK)
  have s5:2*r≤m+2:=by
   rcases Int.lt_or_le (m+2) (2*r)with g|g
   ·have g1:(m+3)*(k:Int)≤2*r*k:=Int.mul_le_mul_of_nonneg_right (by omega) (by omega)
    have g2:m*1≤m*(k:Int):=Int.mul_le_mul_of_nonneg_left (by omega) hm
    rw[Int.add_mul]at g1
    omega
   ·exact g
  omega
 have e3:∀md:Int,∀x∈qZ (fun x y=>x.over y (-(B:Int)) md) s ⟨exN k,exN k⟩, -(B:Int)≤x.e∧ab (x.val B)≤m/2+1:=fun md x hx=>by
  simp only[qZ,List.mem_cons,List.not_mem_nil,or_false]at hx
  rcases hx with rfl|rfl|rfl|rfl
  ·exact⟨Int.le_refl _,key _ _ es.1 a1⟩
  ·exact⟨Int.le_refl _,key _ _ es.1 a1⟩
  ·exact⟨Int.le_refl _,key _ _ es.2 a2⟩
  ·exact⟨Int.le_refl _,key _ _ es.2 a2⟩
 have l:=e3 3 _ (Yz (by simp[qZ]))
 have u:=e3 2 _ (abu (by simp[qZ]))
 exact⟨⟨l.1,u.1⟩,l.2,u.2⟩
def mK(B:Nat):Nat→Int
 |0=>p2 B
 |k+1=>mK B k/2+1
def sK(B:Nat):Nat→Int
 |0=>p2 B
 |k+1=>sK B k+mK B (k+1)
theorem aQY(B:Nat):∀k,0≤mK B k
 |0=>Int.le_of_lt (qX B)
 |k+1=>by have:=aQY B k;show 0≤mK B k/2+1;omega
theorem aUP(B:Nat):∀k:Nat,sK B k+mK B k≤2*p2 B+2*k
 |0=>by show p2 B+p2 B≤2*p2 B+2*((0:Nat):Int);omega
 |k+1=>by
  have:=aUP B k
  show sK B k+(mK B k/2+1)+(mK B k/2+1)≤_
  omega
theorem aKD{n B:Nat}:mgA n B ((gId n).map ptS) (p2 B):=fun i hi=>by
 rw[zz (by rw[YB];exact hi) ex0]
 have h:∀x∈gId n, -(B:Int)≤x.e∧ab (x.val B)≤p2 B:=fun x hx=>by
  obtain⟨t,ht,rfl⟩:=List.mem_map.1 hx
  show-(B:Int)≤(idF _ _).e∧ab ((idF _ _).val B)≤p2 B
  unfold idF
  split
  ·refine⟨by show-(B:Int)≤0;omega,?_⟩
   show ab (sv false 1*2^((0:Int)+(B:Int)).toNat)≤_
   rw[show((0:Int)+(B:Int)).toNat=B by omega]
   have:sv false 1*2^B=p2 B:=by simp[sv,p2]
   rw[this,yN (Int.le_of_lt (qX B))];exact Int.le_refl _
  ·refine⟨by show-(B:Int)≤0;omega,?_⟩
   rw[Zp]
   exact Int.le_of_lt (qX B)
 have:=h _ (aKX (i:=i) (by rw[YB];exact hi))
 exact⟨⟨this.1,this.1⟩,this.2,this.2⟩
theorem aKE{n B Kb:Nat}{X:List ExV}(hX:X.length=n*n)(eX:eK Kb X)(hs:smallI n (fun i j=>mv Kb X n i j) (p2 Kb)):∀k:Nat,mgA n B (gSt n (X.map ptS) (-(B:Int)) k).1 (sK B k)∧mgA n B (gSt n (X.map ptS) (-(B:Int)) k).2 (mK B k)
 |0=>⟨aKD,aKD⟩
 |k+1=>by
  obtain⟨h1,h2⟩:=aKE (B:=B) hX eX hs k
  have h3:=aHo (k:=k+1) (by omega) hX eX hs h2 (aQY B k)
  refine⟨fun i hi=>?_,h3⟩
  show spA B ((yW _ _).getD i sp0) (sK B k+mK B (k+1))
  rw[JI (by rw[(zW k).1];exact hi)]
  exact ag1 (h1 i hi) (h3 i hi)
theorem aV6{n B Kb:Nat}{X:List ExV}(hX:X.length=n*n)(eX:eK Kb X)(hs:smallI n (fun i j=>mv Kb X n i j) (p2 Kb))(hB:12≤B∧B≤148):mgA n B (gFt n (X.map ptS) B) (7*p2 B):=by
 refine atc (zW _).1 (aKE (B:=B) hX eX hs (tmF B)).1 fun s hsp=>?_
 obtain⟨es,a1,a2⟩:=hsp
 have ey: -(B:Int)≤(ex1.shift (-(B:Int))).e:=by show-(B:Int)≤0+ -(B:Int);omega
 have hv:=aba (Nat.le_refl B)
 rw[Nat.sub_self,show p2 0=1 by decide]at hv
 have h1:=aUP B (tmF B)
 have h2:=aQY B (tmF B)
 have h3:=avO hB.2
 have h4:4096≤p2 B:=by
  have e:p2 B=p2 12*p2 (B-12):=QP (by omega)
  have h5:=qX (B-12)
  have h6:p2 12=4096:=by decide
  rw[e,h6];omega
 refine⟨⟨Jo (y:=ExV.neg (ex1.shift (-(B:Int)))) es.1 ey,Jo es.2 ey⟩,?_,?_⟩
 ·show ab ((s.lo.plus (ex1.shift (-(B:Int))).neg).val B)≤_
  rw[jF (y:=ExV.neg (ex1.shift (-(B:Int)))) es.1 ey,as6,hv]
  have:=acm (s.lo.val B) (-1)
  have e1:ab (-1)=1:=by decide
  omega
 ·show ab ((s.hi.plus (ex1.shift (-(B:Int)))).val B)≤_
  rw[jF es.2 ey,hv]
  have:=acm (s.hi.val B) 1
  have e1:ab 1=1:=by decide
  omega
def lK:Nat→Nat
 |0=>3
 |k+1=>2*lK k+2
theorem aVH{K:Nat}{s:SpV}{q low:Int}(hl: -(K:Int)≤low)(h:spA K s q):spA K (s.out low) (q+p2 (low+(K:Int)).toNat):=by
 obtain⟨es,a1,a2⟩:=h
 refine⟨⟨ag5 es.1 hl,ag5 es.2 hl⟩,?_,?_⟩
 ·have:=asI (md:=3) es.1 hl
  show ab ((s.lo.rnd low 3).val K)≤_
  omega
 ·have:=asI (md:=2) es.2 hl
  show ab ((s.hi.rnd low 2).val K)≤_
  omega
theorem afH{a b:Nat}(h:a≤b):p2 a≤p2 b:=by
 have e:p2 b=p2 a*p2 (b-a):=QP (by omega)
 have h1:=qX a
 have h2:=qX (b-a)
 have:=Int.mul_le_mul_of_nonneg_left (show(1:Int)≤p2 (b-a) by omega) (Int.le_of_lt h1)
 omega
theorem aKF{n B:Nat}{F:List SpV}(h4:n≤4)(hF:F.length=n*n)(h:mgA n B F (7*p2 B)):∀k:Nat,mgA n (B*2^k) (gSq n (-(B:Int)) F k) ((p2 (lK k)-1)*p2 (B*2^k))
 |0=>by rw[show B*2^0=B by simp,show p2 (lK 0)-1=7 by decide];exact h
 |k+1=>by
  have ih:=aKF h4 hF h k
  have eK:B*2^(k+1)=B*2^k+B*2^k:=by rw[Nat.pow_succ,←Nat.mul_assoc];omega
  have hBk:B≤B*2^k:=Nat.le_mul_of_pos_right B (Nat.pow_pos (by decide))
  rw[eK]
  generalize B*2^k=K at*
  have hT:mgA n (K+K) (qC n (gSq n (-(B:Int)) F k) (gSq n (-(B:Int)) F k)) (4*(((p2 (lK k)-1)*p2 K)*((p2 (lK k)-1)*p2 K))):=fun i hi=>by
   obtain⟨h1,h2⟩:=JN hi
   unfold qC
   rw[Xr hi]
   have:=asw (n:=n) (a:=fun _ _=>(p2 (lK k)-1)*p2 K) (b:=fun _ _=>(p2 (lK k)-1)*p2 K) (i:=i/n) (j:=i % n) (fun t ht=>ih _ (qT h1 ht)) (fun t ht=>ih _ (qT ht h2)) n (Nat.le_refl n)
   rw[Qr]at this
   refine ag2 this (Int.mul_le_mul_of_nonneg_right (by omega) ?_)
   have hp1:=qX (lK k)
   have hp2:=qX K
   exact Int.mul_nonneg (Int.mul_nonneg (by omega) (by omega)) (Int.mul_nonneg (by omega) (by omega))
  refine atc zI hT fun s hsp=>ag2 (aVH (low:= -(B:Int)) (by omega) hsp) ?_
  have g1:p2 (-(B:Int)+((K+K:Nat):Int)).toNat≤p2 (K+K):=afH (by omega)
  have g2:p2 (lK (k+1))=4*(p2 (lK k)*p2 (lK k)):=by
   show p2 (2*lK k+2)=_
   rw[show 2*lK k+2=lK k+lK k+2 by omega,zv,zv,show p2 2=4 by decide];omega
  have g3:8≤p2 (lK k):=by
   have:3≤lK k:=by
    cases k with
    |zero=>decide
    |succ k=>show 3≤2*lK k+2;have:1≤lK k:=by {cases k with|zero=>decide|succ k=>show 1≤2*lK k+2;omega};omega
   have:=afH this
   have e:p2 3=8:=by decide
   omega
  have e1:4*(((p2 (lK k)-1)*p2 K)*((p2 (lK k)-1)*p2 K))=(4*(p2 (lK k)*p2 (lK k))-8*p2 (lK k)+4)*p2 (K+K):=by rw[zv];grind
  rw[e1,g2]
  generalize p2 (lK k)*p2 (lK k)=A at*
  generalize p2 (lK k)=a at*
  have hP:=qX (K+K)
  generalize p2 (K+K)=P at*
  have e2:(4*A-1)*P=(4*A-8*a+4)*P+P+(8*a-6)*P:=by grind
  have e3:0≤(8*a-6)*P:=Int.mul_nonneg (by omega) (by omega)
  omega
theorem biv{k:Nat}(h:k≤8):lK k≤1278:=by
 rcases(show k=0∨k=1∨k=2∨k=3∨k=4∨k=5∨k=6∨k=7∨k=8 by omega)with rfl|rfl|rfl|rfl|rfl|rfl|rfl|rfl|rfl<;>decide
theorem aIm(e:Int):jJ 0 e=true:=by
 unfold jJ jU oE
 rw[Jt,qs];simp
theorem aKT{K:Nat}{x:ExV}(hK: -(K:Int)≤x.e)(hx:ab (x.val K)≤p2 1278*p2 K)(he:x.m=0∨ -150≤x.e):x.fit=true:=by
 by_cases h0:x.m=0
 ·show jJ x.m x.e=true
  rw[h0];exact aIm _
 have he:=he.resolve_left h0
 have h1:ab (x.val K)=(x.m:Int)*p2 (x.e+(K:Int)).toNat:=by
  show ab (sv x.s x.m*2^(x.e+(K:Int)).toNat)=_
  rw[ji,show ab (sv x.s x.m)=x.m by unfold ab;rw[Yl],yN (Int.le_of_lt (Int.pow_pos (by omega)))];rfl
 have h2:(bl x.m:Int)+x.e≤1279:=by
  rcases Int.lt_or_le 1279 ((bl x.m:Int)+x.e)with g|g
  ·exfalso
   have hb:2^(bl x.m-1)≤x.m:=by
    rcases Nat.lt_or_ge x.m (2^(bl x.m-1))with c|c
    ·have:=zf.2 c
     have:bl x.m≠0:=fun e=>by
      have:=zf.1 (show bl x.m≤0 by omega)
      omega
     omega
    ·exact c
   have hp:=qX (x.e+(K:Int)).toNat
   have a1:p2 (bl x.m-1)*p2 (x.e+(K:Int)).toNat≤(x.m:Int)*p2 (x.e+(K:Int)).toNat:=Int.mul_le_mul_of_nonneg_right (by unfold p2;exact_mod_cast hb) (Int.le_of_lt hp)
   rw[←zv]at a1
   have hb1:bl x.m≠0:=fun e=>by
    have:=zf.1 (show bl x.m≤0 by omega)
    omega
   have a2:p2 (1278+K)*2≤p2 (bl x.m-1+(x.e+(K:Int)).toNat):=by
    have:=afH (show 1278+K+1≤bl x.m-1+(x.e+(K:Int)).toNat by omega)
    rw[zv (1278+K) 1]at this
    exact this
   have a3:=qX (1278+K)
   rw[←zv,h1]at hx
   omega
  ·exact g
 show jJ x.m x.e=true
 have q4:=jC (aG0 x.m)
 have l1:=qI (m:=oM x.m) (B:=1500) (by omega)
 have q5: -3000≤oE x.m x.e∧oE x.m x.e≤3000:=by
  unfold oE
  rw[if_neg h0]
  have:=yv h0
  omega
 unfold jJ jU
 rw[decide_eq_true (show(lim (oM x.m)).length≤100 by omega),decide_eq_true q5.1,decide_eq_true q5.2];rfl
theorem aUR{x:ExV}{low md:Int}(hl: -150≤low):(x.rnd low md).m=0∨ -150≤(x.rnd low md).e:=by
 show roM x.s x.m x.e low md=0∨_≤roE x.m x.e low
 unfold roM roE
 by_cases c:low≤x.e∨x.m=0
 ·rw[if_pos c,if_pos c]
  rcases c with c|c
  ·right;omega
  ·left;exact c
 ·rw[if_neg c,if_neg c];right;omega
theorem atE{n s B Kb:Nat}{X:List ExV}{L:List ExV}{low:Int}(h4:n≤4)(hs8:s≤8)(hB:12≤B∧B≤148)(hw: -(B:Int)≤low-4)(hlo: -120≤low∧low≤0)(hX:X.length=n*n)(eX:eK Kb X)(hs:smallI n (fun i j=>mv Kb X n i j) (p2 Kb))(hg:gB n L s=X.map ptS):(yb n L s B low).all SpV.fit=true:=by
 have h1:=aKF h4 Xs (aV6 hX eX hs hB) s
 have hBk:B≤B*2^s:=Nat.le_mul_of_pos_right B (Nat.pow_pos (by decide))
 refine List.all_eq_true.2 fun x hx=>?_
 obtain⟨i,hi,rfl⟩:=List.getElem_of_mem hx
 have hi':i<n*n:=by rw[yl]at hi;exact hi
 have e:(yb n L s B low).getD i sp0=(yb n L s B low)[i]:=by rw[List.getD_eq_getElem?_getD,List.getElem?_eq_getElem hi];rfl
 rw[←e]
 unfold yb
 rw[hg,zz (by rw[QC Xs];exact hi') sp0]
 have h2:=h1 i hi'
 generalize (gSq n (-(B:Int)) (gFt n (X.map ptS) B) s).getD i sp0=y at*
 have h3:=aVH (low:=low-4) (by omega) h2
 have hp:=qX (B*2^s)
 have g1:p2 (low-4+((B*2^s:Nat):Int)).toNat≤p2 (B*2^s):=afH (by omega)
 have g2:=afH (biv hs8)
 have g3:p2 (lK s)*p2 (B*2^s)≤p2 1278*p2 (B*2^s):=Int.mul_le_mul_of_nonneg_right g2 (Int.le_of_lt hp)
 rw[Int.sub_mul,Int.one_mul]at h3
 obtain⟨⟨e1,e2⟩,a1,a2⟩:=h3
 have f1:=aKT e1 (by omega) (aUR (by omega))
 have f2:=aKT e2 (by omega) (aUR (by omega))
 show((y.out (low-4)).lo.fit&&(y.out (low-4)).hi.fit)=true
 rw[f1,f2];rfl
end Go.Ab
namespace Go.Ab
open Go Go.Proofs
def avA(n:Nat)(L:List ExV)(low:Int):Bool:=(decide (-120≤low)&&decide (low≤0))&&decide ((qS n L n).cmp (exN 64)≤0)
theorem y0(n:Nat)(L:List ExV)(low:Int)(h:matV n L):Con Tryz.prog 69 true [.ag [.v (.int .i64 (n)),.sl (L).length (qn ExV.cs (L))],.v (.int .i64 low)] [] (isA (.v (.bool (avA n L low)))):=by
 have cw:=zt low (-120) 0
 have cm:=Qf n L h
 have cg:=zX n L (by have:=h.l16;omega)
 have cn:=Qd n L h.n4 h.len (je h.bd (by omega) (by omega))
 have bN:=jZ h.len h.bd (by omega) n (Nat.le_refl n)
 have h4:=h.n4
 have cc:=jt (qS n L n) (exN 64) (bN.mono (by omega) (by omega)) ((aKY (by decide)).mono (by omega) (by omega))
 unfold avA
 generalize qS n L n=y at*
 cases hw:(decide (-120≤low)&&decide (low≤0))
 ·rw[hw]at cw
  refine Con.of_w (rs:=[.tmp 4]) Tryz.func69 rfl Tryz.ntmps69 rfl ?_
  simp(disch:=omega)only[go_sem]
  refine ql (cm) ?_
  simp(disch:=omega)only[go_sem]
  refine ql (cw) ?_
  simp(disch:=omega)only[go_sem]
  exact qB
 ·rw[hw]at cw
  rw[Bool.true_and]
  generalize y.cmp (exN 64)=C at*
  have e64:exN 64=⟨false,64,0⟩:=rfl
  rw[e64]at cc
  refine Con.of_w (rs:=[.tmp 4]) Tryz.func69 rfl Tryz.ntmps69 rfl ?_
  simp(disch:=omega)only[go_sem]
  refine ql (cm) ?_
  simp(disch:=omega)only[go_sem]
  refine ql (cw) ?_
  simp(disch:=omega)only[go_sem]
  refine qa (cg) ?_
  simp(disch:=omega)only[go_sem]
  refine qa (cn) ?_
  simp(disch:=omega)only[go_sem]
  refine qa (zF 64 (by omega)) ?_
  simp(disch:=omega)only[go_sem]
  refine ql (cc) ?_
  simp(disch:=omega)only[go_sem]
  exact qB
theorem Qn(k:Int)(M:List DyV)(low:Int)(h1:M.length≤16)(h2:∀d∈M,d.xs.length≤200)(h:amn k M=false):Con Tryz.prog 69 true [.ag [.v (.int .i64 k),.sl M.length (qn DyV.cs M)],.v (.int .i64 low)] [] (isA (.v (.bool false))):=by
 have c:=am9 k M h1 h2
 rw[h]at c
 refine Con.of_w (rs:=[.tmp 4]) Tryz.func69 rfl Tryz.ntmps69 rfl ?_
 simp(disch:=omega)only[go_sem]
 refine ql (c) ?_
 simp(disch:=omega)only[go_sem]
 exact qB
end Go.Ab
namespace Go.Ab
open Go Go.Proofs
/-! ### The exponential of a matrix that may be asked for-/
def exS(n:Nat)(L:List ExV):Nat:=hvN (qS n L n)
def YD(n:Nat)(L:List ExV)(low:Int):Nat:=(12+2*(exS n L:Int)-low).toNat
def exH(n:Nat)(L:List ExV)(low:Int):List SpV:=yb n L (exS n L) (YD n L low) low
theorem asX{n:Nat}{L:List ExV}(h:matV n L):(qS n L n).s=false:=by
 have b:=(jZ h.len h.bd (by omega) n (Nat.le_refl n)).1
 obtain⟨v,e⟩:=jT (h.eK (Nat.le_refl _)) h.len n (Nat.le_refl n)
 have hv:0≤(qS n L n).val 3000:=by rw[v];exact zH _ _
 generalize qS n L n=y at*
 cases hs:y.s
 ·rfl
 ·exfalso
  have hm:y.m≠0:=fun h0=>by rw[b h0]at hs;cases hs
  have:y.val 3000= -((y.m:Int)*p2 (y.e+((3000:Nat):Int)).toNat):=by
   show sv y.s y.m*2^_=_
   rw[hs];simp[sv,p2,Int.neg_mul]
  have hp:=Int.mul_pos (show(0:Int)<y.m by omega) (qX (y.e+((3000:Nat):Int)).toNat)
  omega
theorem Z8{K:Nat}{y:ExV}(h0:y.m≠0)(hK: -(K:Int)≤y.e):p2 (y.top-1+(K:Int)).toNat≤ab (y.val K)∧ab (y.val K)<p2 (y.top+(K:Int)).toNat:=by
 have h1:y.top=(bl y.m:Int)+y.e:=by unfold ExV.top;rw[if_neg h0]
 have h2:y.m<2^bl y.m:=zf.1 (Nat.le_refl _)
 have hb1:bl y.m≠0:=fun e=>by
  have:=zf.1 (show bl y.m≤0 by omega)
  omega
 have h3:2^(bl y.m-1)≤y.m:=by
  rcases Nat.lt_or_ge y.m (2^(bl y.m-1))with c|c
  ·have:=zf.2 c
   omega
  ·exact c
 have hv:ab (y.val K)=(y.m:Int)*p2 (y.e+(K:Int)).toNat:=by
  show ab (sv y.s y.m*2^(y.e+(K:Int)).toNat)=_
  rw[ji,show ab (sv y.s y.m)=y.m by unfold ab;rw[Yl],yN (Int.le_of_lt (Int.pow_pos (by omega)))];rfl
 have hp:=qX (y.e+(K:Int)).toNat
 rw[hv]
 constructor
 ·rw[show(y.top-1+(K:Int)).toNat=(bl y.m-1)+(y.e+(K:Int)).toNat by omega,zv]
  exact Int.mul_le_mul_of_nonneg_right (by unfold p2;exact_mod_cast h3) (Int.le_of_lt hp)
 ·rw[show(y.top+(K:Int)).toNat=bl y.m+(y.e+(K:Int)).toNat by omega,zv]
  exact Int.mul_lt_mul_of_pos_right (by unfold p2;exact_mod_cast h2) hp
theorem aP8{a b:Nat}(h:p2 a<p2 b):a<b:=by
 rcases Nat.lt_or_ge a b with g|g
 ·exact g
 ·have:=afH g;omega
theorem YX{K:Nat}{y:ExV}(h0:y.m=0):y.val K=0:=by
 show sv y.s y.m*_=0
 rw[h0];simp[sv]
theorem aIt{n:Nat}{L:List ExV}(h:matV n L){i j:Nat}(hi:i<n)(hj:j<n):ab (mv 3000 L n i j)≤(qS n L n).val 3000:=by
 obtain⟨v,e⟩:=jT (h.eK (Nat.le_refl _)) h.len n (Nat.le_refl n)
 rw[v]
 exact aK0 (mv 3000 L n) hi hj
structure askF(n:Nat)(L:List ExV)(low:Int):Prop where
 lo: -120≤low∧low≤0
 s8:exS n L≤8
 B:12≤YD n L low∧YD n L low≤148
 w:low-2*(exS n L:Int)-12= -(YD n L low:Int)
 bd:sbd (-3100) 0 (gB n L (exS n L))
 small:smallI n (fun i j=>mv 3000 L n i j) (p2 (3000+exS n L))
theorem yt{n:Nat}{L:List ExV}{low:Int}(h:matV n L)(ha:avA n L low=true):askF n L low:=by
 unfold avA at ha
 simp only[Bool.and_eq_true,decide_eq_true_eq]at ha
 obtain⟨hlo,hc⟩:=ha
 have hb:=jZ h.len h.bd (by omega) n (Nat.le_refl n)
 obtain⟨v,e⟩:=jT (h.eK (Nat.le_refl _)) h.len n (Nat.le_refl n)
 have hs:=asX h
 rw[QF (K:=3000) e (by show-((3000:Nat):Int)≤0;omega)]at hc
 have hle:=(yH _ _).1.1 hc
 have e64:(exN 64).val 3000=p2 3006:=by
  have a:(exN 64).val 3000=sv false 64*p2 ((0:Int)+((3000:Nat):Int)).toNat:=rfl
  rw[a,show((0:Int)+((3000:Nat):Int)).toNat=3000 by omega,QP (show 3006=6+3000 by omega),show sv false 64=p2 6 by decide]
 rw[e64]at hle
 have htop:(qS n L n).m≠0→(qS n L n).top≤7:=fun h0=>by
  have t:=(Z8 h0 e).1
  have hv:ab ((qS n L n).val 3000)=(qS n L n).val 3000:=yN (by rw[v];exact zH _ _)
  rw[hv]at t
  rcases Int.lt_or_le 7 (qS n L n).top with g|g
  ·have h1:p2 3006<p2 (3006+1):=by rw[zv];have:=qX 3006;show _<_*2;omega
   have h2:=afH (show 3006+1≤((qS n L n).top-1+((3000:Nat):Int)).toNat by omega)
   omega
  ·exact g
 have s8:exS n L≤8:=by
  unfold exS hvN
  split
  ·omega
  ·rename_i h0
   have:=htop h0
   omega
 have hs1:(qS n L n).m≠0→(qS n L n).top+1≤(exS n L:Int):=fun h0=>by
  unfold exS hvN
  rw[if_neg h0];omega
 have hB:(YD n L low:Int)=12+2*(exS n L:Int)-low:=by unfold YD;omega
 refine⟨hlo,s8,by omega,by omega,fun x hx=>?_,aGt h.len (h.eK (Nat.le_refl _)) hs hs1⟩
 obtain⟨y,hy,rfl⟩:=List.mem_map.1 hx
 obtain⟨t,ht,rfl⟩:=List.mem_map.1 hy
 obtain⟨h1,h2⟩:=JN (List.mem_range.1 ht)
 have hix:=qT h1 h2
 have hok:=h.ok _ (aKX (l:=L) (i:=t/n*n+t % n) (by rw[h.len];exact hix))
 have hen:=aIt h h1 h2
 have key:((L.getD (t/n*n+t % n) ex0).times (ex1.shift (-(exS n L:Int)))).bd (-3100) 0:=by
  unfold mv at hen
  generalize L.getD (t/n*n+t % n) ex0=x at*
  obtain⟨r1,r2,r3,r4,r5⟩:=jS hok
  have em:(x.times (ex1.shift (-(exS n L:Int)))).m=x.m:=Nat.mul_one _
  have ee:(x.times (ex1.shift (-(exS n L:Int)))).e=x.e-(exS n L:Int):=by show x.e+(0+ -(exS n L:Int))=_;omega
  refine⟨fun h0=>?_,by rw[ee];omega,?_⟩
  ·rw[em]at h0
   show((x.s != false)&&decide (x.m*1≠0))=false
   rw[decide_eq_false (show ¬x.m*1≠0 by omega),Bool.and_false]
  ·rw[em,ee]
   by_cases h0:x.m=0
   ·have:=(r4 h0).2
    rw[h0,y5];omega
   ·have t1:=(Z8 (K:=3000) h0 (by omega)).1
    have hn0:(qS n L n).m≠0:=fun hz=>by
     rw[YX hz]at hen
     have:=qX (x.top-1+((3000:Nat):Int)).toNat
     omega
    have t2:=(Z8 hn0 e).2
    have hv:ab ((qS n L n).val 3000)=(qS n L n).val 3000:=yN (by rw[v];exact zH _ _)
    rw[hv]at t2
    have t3:=aP8 (show p2 (x.top-1+((3000:Nat):Int)).toNat<p2 ((qS n L n).top+((3000:Nat):Int)).toNat by omega)
    have t4:x.top=(bl x.m:Int)+x.e:=by unfold ExV.top;rw[if_neg h0]
    have:=hs1 hn0
    omega
 exact⟨key,key⟩
theorem am2(n:Nat)(L:List ExV)(low:Int)(h:matV n L)(ha:avA n L low=true):Con Tryz.prog 71 false [.ag [.v (.int .i64 (n)),.sl (L).length (qn ExV.cs (L))],.v (.int .i64 low)] [] (isA (.ag [.v (.int .i64 (n)),.sl (exH n L low).length (qn SpV.cs (exH n L low))])):=by
 have f:=yt h ha
 by_cases h0:(qS n L n).m=0
 ·exact auH n L (exS n L) (YD n L low) low h.n4 h.len h.bd f.s8 f.w f.lo f.bd _ rfl h0 (by unfold exS hvN;rw[if_pos h0])
 ·refine auI n L (exS n L) (YD n L low) low h.n4 h.len h.bd f.s8 f.w f.lo f.bd _ rfl h0 ?_
  unfold exS hvN
  rw[if_neg h0]
  split<;>omega
theorem aWw{n s:Nat}{L:List ExV}:gB n L s=(qF n L (ex1.shift (-(s:Int)))).map ptS:=rfl
theorem bh6{n:Nat}{L:List ExV}(h:matV n L)(s:Nat):eK (3000+s) (qF n L (ex1.shift (-(s:Int)))):=fun x hx=>by
 obtain⟨t,ht,rfl⟩:=List.mem_map.1 hx
 obtain⟨h1,h2⟩:=JN (List.mem_range.1 ht)
 have a:=ZC (h.eK (Nat.le_refl _)) (i:=t/n*n+t % n) (by rw[h.len];exact qT h1 h2)
 show _≤(L.getD (t/n*n+t % n) ex0).e+(0+ -(s:Int))
 omega
theorem bh5{n:Nat}{L:List ExV}(h:matV n L)(s:Nat){i j:Nat}(hi:i<n)(hj:j<n):mv (3000+s) (qF n L (ex1.shift (-(s:Int)))) n i j=mv 3000 L n i j:=by
 have a:=ZC (h.eK (Nat.le_refl _)) (i:=i*n+j) (by rw[h.len];exact qT hi hj)
 have ey: -((s:Nat):Int)≤(ex1.shift (-(s:Int))).e:=by show-(s:Int)≤0+ -(s:Int);omega
 show(List.getD (gl n _ (n*n)) (i*n+j) ex0).val (3000+s)=_
 rw[aHI hi hj,yO a ey,aba (Nat.le_refl s),Nat.sub_self]
 show _*p2 0=_
 rw[show p2 0=1 by decide,Int.mul_one];rfl
theorem at5{n:Nat}{L:List ExV}{low:Int}(h:matV n L)(f:askF n L low):(exH n L low).all SpV.fit=true:=by
 have hB:=f.B
 have hw:=f.w
 refine atE (Kb:=3000+exS n L) (X:=qF n L (ex1.shift (-(exS n L:Int)))) h.n4 f.s8 hB (by omega) f.lo z7 (bh6 h _) ⟨f.small.pos,?_⟩ aWw
 rw[show nrm (fun i j=>mv (3000+exS n L) (qF n L (ex1.shift (-(exS n L:Int)))) n i j) n=nrm (fun i j=>mv 3000 L n i j) n from asW fun i j hi hj=>bh5 h _ hi hj]
 exact f.small.le
def exT(n:Nat)(L:List ExV)(low:Int):List SpV:=(exH n L low).map SpV.can
theorem ZG(n:Nat)(L:List ExV)(low:Int)(h:matV n L)(ha:avA n L low=true):Con Tryz.prog 13 false [.ag [.v (.int .i64 (n)),.sl (L).length (qn ExV.cs (L))],.v (.int .i64 low)] [] (isA (.tu [.ag [.v (.int .i64 (n)),.sl (exT n L low).length (qn SpV.cs (exT n L low))],.v (.bool true)])):=by
 refine Con.frzA ?_
 have f:=yt h ha
 have ca:=y0 n L low h
 rw[ha]at ca
 have cg:=zX n L (by have:=h.l16;omega)
 have ch:=am2 n L low h ha
 have hq:=j7 h.n4
 have hl:(exH n L low).length=n*n:=yl
 have hB:=f.B
 have hw:=f.w
 have hlo:=f.lo
 have hb:sbd (-37888) 73473 (exH n L low):=aHE h.n4 f.s8 (by omega) (by omega) (by omega) f.bd
 have ci:=JW n (exH n L low) (by omega) (qE hb (by omega) (by omega))
 rw[at5 h f,if_pos rfl]at ci
 change Con _ _ _ _ _ (isA (.tu [.ag [.v (.int .i64 n),.sl (exH n L low).length (qn SpV.cs (exT n L low))],.v (.bool true)]))at ci
 have hl2:(exT n L low).length=(exH n L low).length:=List.length_map _
 rw[hl2]
 generalize exT n L low=H2 at*
 generalize exH n L low=H at*
 refine Con.of_w (rs:=[.cell 4 30,.tmp 5]) Tryz.func13 rfl Tryz.ntmps13 rfl ?_
 simp(disch:=omega)only[go_sem]
 refine ql (ca) ?_
 simp(disch:=omega)only[go_sem]
 refine qa (cg) ?_
 simp(disch:=omega)only[go_sem]
 refine qa (ch) ?_
 simp(disch:=omega)only[go_sem]
 refine qa (ci) ?_
 simp(disch:=omega)only[go_sem]
 exact qp
theorem jM(r:AV)(low:Int)(ca:Con Tryz.prog 69 true [r,.v (.int .i64 low)] [] (isA (.v (.bool false))))(hr:∃(k:Int) (m:Nat) (cs:List AV),r=.ag [.v (.int .i64 k),.sl m cs]):Con Tryz.prog 13 false [r,.v (.int .i64 low)] []
  (isA (.tu [.ag [.v (.int .i64 0),.sl 0 []],.v (.bool false)])):=by
 refine Con.frzA ?_
 obtain⟨k,m,cs,rfl⟩:=hr
 refine Con.of_w (rs:=[.cell 4 30,.tmp 5]) Tryz.func13 rfl Tryz.ntmps13 rfl ?_
 simp(disch:=omega)only[go_sem]
 refine ql (ca) ?_
 simp(disch:=omega)only[go_sem]
 exact qp
theorem asE{n:Nat}{S:List SpV}{M:Nat→Nat→Int}{D:Int}(hn:1≤n)(hl:S.length=n*n)(h:rtM n S M D):rtM n (S.map SpV.can) M D:=
 Y8 hl h 0 (fun K s N N' hK es hi ⟨i,j,_,_,e1,e2⟩=>by
  subst e1 e2
  exact⟨(aRg es).2 hi,SpV.can_eK es⟩) hn
theorem Q0{n:Nat}{L:List ExV}{low:Int}(h:matV n L)(f:askF n L low):imatV n (exT n L low)∧∀T,tmF (YD n L low)≤T→rtM n (exT n L low) (sqI n (exS n L) (eE n (fun i j=>mv 3000 L n i j) (p2 (3000+exS n L)) T)) (sqD (exS n L) (eD (p2 (3000+exS n L)) T)):=by
 have hB:=f.B
 have hl:(exH n L low).length=n*n:=yl
 have key:∀T,tmF (YD n L low)≤T→rtM n (exH n L low) (sqI n (exS n L) (eE n (fun i j=>mv 3000 L n i j) (p2 (3000+exS n L)) T)) (sqD (exS n L) (eD (p2 (3000+exS n L)) T)):=fun T hT=>
  abE h.n1 (by omega) f.lo.2 f.small (aWv h.len (h.eK (Nat.le_refl _))) hT
 refine⟨?_,fun T hT=>asE h.n1 hl (key T hT)⟩
 have hD:=jj (jy f.small.pos (tmF (YD n L low))) (exS n L)
 obtain⟨K,k1,k2⟩:=key _ (Nat.le_refl _)
 exact(baP (K:=max K 3000) (Nat.le_max_right _ _) h.n1 h.n4 hl (fun s hs=>by
  obtain⟨i,hi,rfl⟩:=List.getElem_of_mem hs
  have e:(exH n L low).getD i sp0=(exH n L low)[i]:=by rw[List.getD_eq_getElem?_getD,List.getElem?_eq_getElem hi];rfl
  obtain⟨h1,h2⟩:=JN (show i<n*n by omega)
  have q1:=k1 i (by omega)
  have q2:=k2 _ _ h1 h2
  rw[ahn]at q2
  rw[←e]
  exact⟨q1.up (Nat.le_max_left _ _),aKO hD (abC q1 (Nat.le_max_left _ _) q2)⟩) (at5 h f)).2.2
end Go.Ab
namespace Go.Ab
open Go Go.Proofs
section
variable (l:List UInt8)(hl:l.length≤9223372036854775807)(i h:Int)(hi:0≤i∧i≤l.length)
include hl hi
end
end Go.Ab
namespace Go.Ab
open Go Go.Proofs
section
variable (l:List UInt8)(hl:l.length≤9223372036854775807)(i h:Int)(hi:0≤i∧i≤l.length)
include hl hi
theorem amX:Con Tryz.prog 68 false [.pt 10000000 0] [.own 0 [.sl l.length (qj l),.v (.int .i64 i),.v (.int .i64 h)]] (YE l fun r=>∃k:Int,(-121≤k∧k≤1)∧r=.v (.int .i64 k)):=by
 refine Con.of_aw Tryz.func68 rfl Tryz.ntmps68 (by simp) (by simp) (by simp) (W.sound ?_)
 show @W Tryz.prog 11 ⟨_⟩ ⟨fun x σ=>@q8 _ _ _ ⟨_⟩ _ ⟨_⟩ x σ⟩ _ _
 simp(disch:=omega)only[go_sem]
 refine qx (qW l hl i h hi 15 (by omega)) ?_
 rintro r i1 h1 hi1 ⟨b,rfl⟩
 simp(disch:=omega)only[go_sem]
 cases b
 ·simp(disch:=omega)only[go_sem]
  refine qx (qN l hl i1 h1 hi1 60 (by omega)) ?_
  rintro r i2 h2 hi2 ⟨k,hk,rfl⟩
  simp(disch:=omega)only[go_sem]
  have hk2:=hk.2 (by omega)
  refine qU (i2) (h2) ⟨0-k,by omega,rfl⟩
 ·simp(disch:=omega)only[go_sem]
  refine jY (zC l hl i1 h1 hi1 [1, -121, -120] (by simp) (by simp)) ?_
  rintro r i2 h2 hi2 ⟨y,hy,rfl⟩
  have hy_b: -121≤y∧y≤1:=by
   simp only[List.mem_cons,List.not_mem_nil,or_false]at hy
   omega
  clear hy
  simp(disch:=omega)only[go_sem]
  refine qU (i2) (h2) ⟨y,by omega,rfl⟩
theorem ago:Con Tryz.prog 67 false [.pt 10000000 0] [.own 0 [.sl l.length (qj l),.v (.int .i64 i),.v (.int .i64 h)]] (YE l aV8):=by
 refine Con.cur l i h (Q:=fun r hs=>(∀ob∈hs,ob.men fun _=>False)∧aV8 (qJ (rhp hs []) 6 r)) ?_ fun _ _ h=>h
 refine Con.of_aw Tryz.func67 rfl Tryz.ntmps67 (by simp) (by simp) (by simp) (W.sound ?_)
 show @W Tryz.prog 29 ⟨_⟩ ⟨fun x σ=>@q8 _ _ _ ⟨_⟩ _ ⟨_⟩ x σ⟩ _ _
 simp(disch:=omega)only[go_sem]
 refine qx (aSB l hl i h hi) ?_
 rintro r i1 h1 hi1 ⟨n,hn,rfl⟩
 simp(disch:=omega)only[go_sem]
 have hq:=j7 hn.2
 refine zk (abU n hn.2) (by simp(disch:=omega)only[go_sem]) ?_
 rintro r hs ⟨rfl,rfl⟩
 refine⟨by simp[qR];simp(disch:=omega)only[go_sem],?_⟩
 simp(disch:=omega)only[go_sem]
 refine qi (fun x:List ExV×Int×Int=>[(0,.pt 10000000 0),(2,.pt 5 0),(3,.v (.int .i64 n)),(4,.pt 4 0),(5,.v (.int .i64 x.1.length))])
  (fun x=>[(3,.own 3 (qn ExV.cs x.1++jh (n*n-x.1.length) z3)),(4,.own 0 [.v (.int .i64 n),.rf 3 0 (n*n)]),(5,.own 0 [.v (.int .i64 0),.v (.slice none 0 0)]),(10000000,.own 0 [.sl l.length (qj l),.v (.int .i64 x.2.1),.v (.int .i64 x.2.2)])])
  (fun x=>x.1.length≤n*n∧(∀y∈x.1,y.ok=true)∧(0≤x.2.1∧x.2.1≤l.length)) (fun x=>n*n-x.1.length) ([],i1,h1) ⟨by simp,by simp,hi1⟩
  (Le.lst [(3,110000000),(4,60000000),(5,40000000)] _ _ rfl (by simp(disch:=omega)only[go_sem]) (by simp(disch:=omega)only[go_sem,Zo,List.nil_append];try rfl)) ?_
 rintro⟨L,i2,h2⟩ ⟨hL,hok,hi2⟩
 dsimp only at hL hok hi2 ⊢
 simp(disch:=omega)only[go_sem]
 refine qg (fun c1=>?_) (fun c1=>?_)
 ·obtain⟨k,hk⟩:∃k,n*n-L.length=k+1:=⟨n*n-L.length-1,by omega⟩
  rw[hk]
  simp(disch:=omega)only[go_sem,c1]
  refine qv rfl [⟨0,[],[]⟩,⟨1,[],[]⟩,⟨2,[1],[]⟩,⟨3,[1],[]⟩,⟨4,[1],[]⟩,⟨5,[],[]⟩,⟨6,[],[]⟩] (by kernel_rfl) ?_
  simp(disch:=omega)only[go_sem]
  refine qx (JT l hl i2 h2 hi2) ?_
  rintro r i3 h3 hi3 ⟨x,hx,rfl⟩
  simp(disch:=omega)only[go_sem]
  have hl3:(L++[x]).length=L.length+1:=by simp
  rw[XC]
  refine⟨by omega,by rw[List.length_append,JJ,agM];omega,qb (L++[x],i3,h3) [] ⟨by dsimp only;omega,fun y hy=>?_,hi3⟩ (by show n*n-(L++[x]).length<k+1;omega) rfl (by simp(disch:=omega)only[go_sem,hl3];try omega) (by simp(disch:=omega)only[go_sem,hl3,show n*n-(L.length+1)=k by omega])⟩
  rcases List.mem_append.1 hy with hy|hy
  ·exact hok y hy
  ·rw[List.mem_singleton.1 hy];exact hx
 ·obtain hLn:L.length=n*n:=by omega
  have hm:∀(M:List DyV),∀ob∈[Ob.own 3 (qn DyV.cs M)],ob.men fun _=>False:=fun M ob ho=>by rw[List.mem_singleton.1 ho];exact of_eq_true af5
  have h16:(L.map ExV.dy).length=n*n:=by rw[List.length_map];exact hLn
  have h200:∀d∈L.map ExV.dy,d.xs.length≤200:=fun d hd=>by
   obtain⟨x,hx,rfl⟩:=List.mem_map.1 hd
   have:=(jS (hok x hx)).2.2.1
   show(lim x.m).length≤200
   omega
  simp(disch:=omega)only[go_sem,c1]
  refine qx (qW l hl i2 h2 hi2 12 (by omega)) ?_
  rintro r i3 h3 hi3 ⟨b,rfl⟩
  simp(disch:=omega)only[go_sem]
  cases b
  ·simp(disch:=omega)only[go_sem]
   rw[hLn,Nat.sub_self,aJq,List.append_nil,asF]
   refine qh [(0,3)] [.own 3 (qn DyV.cs (L.map ExV.dy))] [.own 0 [.sl l.length (qj l),.v (.int .i64 i3),.v (.int .i64 h3)]] [.ag [.v (.int .i64 n),.rf 0 (0*3) (n*n)]] rfl (by simp(disch:=omega)only[go_sem]) (by simp(disch:=omega)only[go_sem]) (by simp) (by simp) ⟨⟨hm _,atf (o:=0) (by omega) (by omega) h200⟩,_,_,hi3,rfl⟩
  ·simp(disch:=omega)only[go_sem]
   refine qx (amQ l hl i3 h3 hi3 n hn) ?_
   rintro r i4 h4 hi4 ⟨k,M,hM1,hM2,rfl⟩
   simp(disch:=omega)only[go_sem]
   refine qh [] [] [.own 0 [.sl l.length (qj l),.v (.int .i64 i4),.v (.int .i64 h4)]] [.ag [.v (.int .i64 k),.sl M.length (qn DyV.cs M)]] rfl (by simp(disch:=omega)only[go_sem]) (by simp(disch:=omega)only[go_sem]) (by simp) (by simp) ⟨⟨by simp,k,M,hM1,hM2,?_⟩,_,_,hi4,rfl⟩
   show qJ _ 6 _=_
   simp(disch:=omega)only[go_sem]
end
theorem J2(l:List UInt8)(hl:l.length≤9223372036854775807):Con Tryz.prog 12 false [.sl l.length (qj l)] [] (fun r hs bs=>hs=[]∧bs=[]∧∃(n:Int) (L:List DyV) (k:Int),(L.length≤16∧∀d∈L,d.xs.length≤200)∧(-121≤k∧k≤1)∧r=.tu [.ag [.v (.int .i64 n),.sl L.length (qn DyV.cs L)],.v (.int .i64 k)]):=by
 refine Con.of_aw Tryz.func12 rfl Tryz.ntmps12 (by simp) (by simp) (by simp) (W.sound ?_)
 show @W Tryz.prog 11 ⟨_⟩ ⟨fun x σ=>@q8 _ _ _ ⟨_⟩ _ ⟨_⟩ x σ⟩ _ _
 simp(disch:=omega)only[go_sem]
 refine zk (auG l hl) (by simp(disch:=omega)only[go_sem]) ?_
 rintro r hs ⟨rfl, -,⟨h,rfl⟩⟩
 refine⟨by simp(disch:=omega)only[go_sem],?_⟩
 simp(disch:=omega)only[go_sem]
 refine qx (ago l hl 0 h (by omega)) ?_
 rintro r i1 h1 hi1 ⟨n,L,hL1,hL2,rfl⟩
 simp(disch:=omega)only[go_sem]
 refine qx (amX l hl i1 h1 hi1) ?_
 rintro r i2 h2 hi2 ⟨k,hk,rfl⟩
 simp(disch:=omega)only[go_sem]
 exact qV (by simp(disch:=omega)only[go_sem]) ⟨rfl,rfl,n,L,k,⟨hL1,hL2⟩,hk,rfl⟩
end Go.Ab
namespace Go.Ab
open Go Go.Proofs
/-! ### The exponential of twice a matrix-/
theorem Yu{n:Nat}{N N':Nat→Nat→Int}(e:∀i j,i<n→j<n→N i j=N' i j):∀t i j:Nat,i<n→j<n→z8 n N t i j=z8 n N' t i j
 |0,_,_,_,_=>rfl
 |t+1,i,j,hi,hj=>Ju (fun s hs=>Yu e t i s hi hs) (fun s hs=>e s j hs hj)
theorem aIu{n:Nat}{N N':Nat→Nat→Int}(e:∀i j,i<n→j<n→N i j=N' i j)(c:Int)(T:Nat){i j:Nat}(hi:i<n)(hj:j<n):eE n N c T i j=eE n N' c T i j:=
 qu fun t _=>by rw[Yu e t i j hi hj]
theorem atk{L H M1 M2 D p q P:Int}(hD:0<D)(hq:0<q)(hP:0≤P)(h1:L*(D*D)≤M1*P)(h2:M2*P≤H*D)(hM:ab (M1-D*M2)*q≤D*D*p)(hp:p*P<q):L≤H:=by
 have hDD:=Int.mul_pos hD hD
 have a1:M1*q≤D*M2*q+D*D*p:=by
  have:=Int.mul_le_mul_of_nonneg_right (show M1-D*M2≤ab (M1-D*M2) by unfold ab;omega) (Int.le_of_lt hq)
  rw[Int.sub_mul]at this;omega
 have a2:=Int.mul_le_mul_of_nonneg_right h1 (Int.le_of_lt hq)
 have a3:=Int.mul_le_mul_of_nonneg_right a1 hP
 have a4:=Int.mul_le_mul_of_nonneg_left h2 (Int.mul_nonneg (Int.le_of_lt hD) (Int.le_of_lt hq))
 have a5:D*D*(p*P)<D*D*q:=Int.mul_lt_mul_of_pos_left hp hDD
 have e1:L*(D*D)*q=(L*q)*(D*D):=by grind
 have e2:M1*P*q=M1*q*P:=by grind
 have e3:(D*M2*q+D*D*p)*P=D*q*(M2*P)+D*D*(p*P):=by grind
 have e4:D*q*(H*D)=(H*q)*(D*D):=by grind
 have e5:D*D*q=q*(D*D):=Int.mul_comm _ _
 have a6:(L*q)*(D*D)<(H*q+q)*(D*D):=by rw[Int.add_mul];omega
 have a7:=Int.lt_of_mul_lt_mul_right a6 (Int.le_of_lt hDD)
 have a8:L*q<(H+1)*q:=by rw[Int.add_mul,Int.one_mul];exact a7
 have:=Int.lt_of_mul_lt_mul_right a8 (Int.le_of_lt hq)
 omega
theorem aHv{L H M1 M2 D p q P:Int}(hD:0<D)(hq:0<q)(hP:0≤P)(h1:M1*P≤H*(D*D))(h2:L*D≤M2*P)(hM:ab (M1-D*M2)*q≤D*D*p)(hp:p*P<q):L≤H:=by
 have:=atk (L:= -H) (H:= -L) (M1:= -M1) (M2:= -M2) hD hq hP (by rw[Int.neg_mul,Int.neg_mul];omega) (by rw[Int.neg_mul,Int.neg_mul];omega) (by
  rw[show-M1-D* -M2= -(M1-D*M2) by grind,bbG];exact hM) hp
 omega
theorem aGw{n:Nat}{S:List SpV}{M:Nat→Nat→Int}{D q:Int}(hq:0<q)(h:rtM n S (fun i j=>M i j*q) (D*q)):rtM n S M D:=by
 obtain⟨K,a,b⟩:=h
 refine⟨K,a,fun i j hi hj=>?_⟩
 obtain⟨c,d⟩:=b i j hi hj
 have c:(S.getD (i*n+j) sp0).lo.val K*(D*q)≤M i j*q*p2 K:=c
 have d:M i j*q*p2 K≤(S.getD (i*n+j) sp0).hi.val K*(D*q):=d
 rw[←Int.mul_assoc,Int.mul_right_comm (M i j)]at c d
 exact⟨Int.le_of_mul_le_mul_right c hq,Int.le_of_mul_le_mul_right d hq⟩
theorem aQU{K:Nat}{s t:SpV}(hs:s.ok=true)(ht:t.ok=true)(hK:3000≤K)(h1:s.lo.val K≤t.hi.val K)(h2:t.lo.val K≤s.hi.val K):aHq s t=true:=by
 obtain⟨es,l1,o1,o2⟩:=Y2 hs
 obtain⟨et,l2,o3,o4⟩:=Y2 ht
 have e:3000+(K-3000)=K:=by omega
 have h1':=(acu (K:=3000) (j:=K-3000) es.1 et.2).2 (by rw[e];exact h1)
 have h2':=(acu (K:=3000) (j:=K-3000) et.1 es.2).2 (by rw[e];exact h2)
 unfold aHq yk
 dsimp only
 rw[(aV5 o1 o3).2,(aKH o2 o4).2]
 exact decide_eq_true (by split<;>split<;>omega)
def at4:ExV:=⟨false,1,1⟩
theorem aHr{K:Nat}{y:ExV}(h:y.val K≠0):y.m≠0:=fun h0=>h (YX h0)
theorem agR{K:Nat}{y:ExV}(h:y.m≠0):y.val K≠0:=fun h0=>by
 have e:ab (y.val K)=(y.m:Int)*p2 (y.e+(K:Int)).toNat:=by
  show ab (sv y.s y.m*2^(y.e+(K:Int)).toNat)=_
  rw[ji,show ab (sv y.s y.m)=y.m by unfold ab;rw[Yl],yN (Int.le_of_lt (Int.pow_pos (by omega)))];rfl
 have hp:=Int.mul_pos (show(0:Int)<y.m by omega) (qX (y.e+(K:Int)).toNat)
 rw[h0]at e
 have:ab 0=0:=rfl
 omega
theorem aSw{n:Nat}{L B:List ExV}(h:matV n L)(hB:matV n B)(e:∀i j,i<n→j<n→mv 3000 B n i j=mv 3000 L n i j*2):(exS n L=0∧exS n B=0)∨exS n B=exS n L+1:=by
 obtain⟨v,k⟩:=jT (h.eK (Nat.le_refl _)) h.len n (Nat.le_refl n)
 obtain⟨v',k'⟩:=jT (hB.eK (Nat.le_refl _)) hB.len n (Nat.le_refl n)
 have hv:(qS n B n).val 3000=(qS n L n).val 3000*2:=by
  rw[v,v']
  have:=asV (n:=n) (A:=mv 3000 L n) (C:=mv 3000 B n) (c:=2) (by decide) e
  exact this
 have p0:ab ((qS n L n).val 3000)=(qS n L n).val 3000:=yN (by rw[v];exact zH _ _)
 have p1:ab ((qS n B n).val 3000)=(qS n B n).val 3000:=yN (by rw[v'];exact zH _ _)
 unfold exS hvN
 generalize qS n L n=x at*
 generalize qS n B n=y at*
 by_cases h0:x.m=0
 ·have hy:y.m=0:=by
   by_cases hy:y.m=0
   ·exact hy
   ·exact absurd (by rw[hv,YX h0];rfl) (agR (K:=3000) hy)
  rw[if_pos h0,if_pos hy];exact .inl ⟨rfl,rfl⟩
 ·have hy:y.m≠0:=aHr (K:=3000) (by have:=agR (K:=3000) h0;omega)
  obtain⟨a1,a2⟩:=Z8 h0 k
  obtain⟨b1,b2⟩:=Z8 hy k'
  rw[p0]at a1 a2
  rw[p1,hv]at b1 b2
  have t1:x.top=(bl x.m:Int)+x.e:=by unfold ExV.top;rw[if_neg h0]
  have t2:y.top=(bl y.m:Int)+y.e:=by unfold ExV.top;rw[if_neg hy]
  have bx:bl x.m≠0:=fun e=>by have:=zf.1 (show bl x.m≤0 by omega);omega
  have by':bl y.m≠0:=fun e=>by have:=zf.1 (show bl y.m≤0 by omega);omega
  have d:∀a:Nat,p2 (a+1)=p2 a*2:=fun a=>zv a 1
  have c1:p2 (y.top-1+((3000:Nat):Int)).toNat<p2 ((x.top+((3000:Nat):Int)).toNat+1):=by rw[d];omega
  have c2:p2 ((x.top-1+((3000:Nat):Int)).toNat+1)<p2 (y.top+((3000:Nat):Int)).toNat:=by rw[d];omega
  have c3:=aP8 c1
  have c4:=aP8 c2
  have:y.top=x.top+1:=by omega
  rw[if_neg h0,if_neg hy,this]
  rcases Int.lt_or_le (x.top+1) 0 with g|g
  ·exact .inl ⟨by omega,by omega⟩
  ·exact .inr (by omega)
theorem ahO{n:Nat}{L B:List ExV}{low:Int}(h:matV n L)(hB:matV n B)(e:∀i j,i<n→j<n→mv 3000 B n i j=mv 3000 L n i j*2)(ha:avA n L low=true)(ha':avA n B low=true)(hf:(qC n (exT n L low) (exT n L low)).all SpV.fit=true):
  fN n (qC n (exT n L low) (exT n L low))=n∧imatV n (fT (qC n (exT n L low) (exT n L low)))∧∀i,i<n*n→aHq ((fT (qC n (exT n L low) (exT n L low))).getD i sp0) ((exT n B low).getD i sp0)=true:=by
 have f:=yt h ha
 have f':=yt hB ha'
 obtain⟨-,p1⟩:=Q0 h f
 obtain⟨iw,p2'⟩:=Q0 hB f'
 have hs:=f.small
 have hs':=f'.small
 have hb1:=f.B
 have hb2:=f'.B
 have lP:(qC n (exT n L low) (exT n L low)).length=n*n:=zI
 have prod:∀T,tmF (YD n L low)≤T→rtM n (qC n (exT n L low) (exT n L low)) (jg n (sqI n (exS n L) (eE n (fun i j=>mv 3000 L n i j) (p2 (3000+exS n L)) T)) (sqI n (exS n L) (eE n (fun i j=>mv 3000 L n i j) (p2 (3000+exS n L)) T))) (sqD (exS n L) (eD (p2 (3000+exS n L)) T)*sqD (exS n L) (eD (p2 (3000+exS n L)) T)):=fun T hT=>
  Jl h.n1 (jj (jy hs.pos T) _) (jj (jy hs.pos T) _) (p1 T hT) (p1 T hT)
 obtain⟨K0,k1,k2⟩:=prod _ (Nat.le_refl _)
 obtain⟨K,hK⟩:∃K,K=max K0 3000:=⟨_,rfl⟩
 have kP:∀i,i<n*n→((qC n (exT n L low) (exT n L low)).getD i sp0).eK K:=fun i hi=>(k1 i hi).up (by omega)
 have kW:∀i,i<n*n→((exT n B low).getD i sp0).eK K:=fun i hi=>iw.eK (by omega) hi
 have hpK:=qX K
 have hD0:=Int.mul_pos (jj (jy hs.pos (tmF (YD n L low))) (exS n L)) (jj (jy hs.pos (tmF (YD n L low))) (exS n L))
 obtain⟨g1,g2,g3⟩:=baP (K:=K) (by omega) h.n1 h.n4 lP (fun s hs0=>by
  obtain⟨i,hi,rfl⟩:=List.getElem_of_mem hs0
  have e:(qC n (exT n L low) (exT n L low)).getD i sp0=(qC n (exT n L low) (exT n L low))[i]:=by rw[List.getD_eq_getElem?_getD,List.getElem?_eq_getElem hi];rfl
  obtain⟨h1,h2⟩:=JN (show i<n*n by omega)
  have q2:=abf (prod _ (Nat.le_refl _)) kP hD0 h1 h2
  rw[ahn]at q2
  rw[←e]
  exact⟨kP i (by omega),aKO hD0 q2⟩) hf
 refine⟨g1,by rw[g2];exact g3,?_⟩
 have key:∀i j,i<n→j<n→((qC n (exT n L low) (exT n L low)).getD (i*n+j) sp0).lo.val K≤((exT n B low).getD (i*n+j) sp0).hi.val K∧((exT n B low).getD (i*n+j) sp0).lo.val K≤((qC n (exT n L low) (exT n L low)).getD (i*n+j) sp0).hi.val K:=fun i j hi hj=>by
  rcases aSw h hB e with⟨e1,e2⟩|e1
  ·
   rw[e1]at prod hs
   rw[e2]at p2' hs'
   obtain⟨T,hT,hbig⟩:=bkH 0 K (max (tmF (YD n L low)) (tmF (YD n B low)))
   have hD:=jy hs.pos T
   have r1:=abf (prod T (by omega)) kP (Int.mul_pos hD hD) hi hj
   have r2:=abf (p2' T (by omega)) kW hD hi hj
   have hm:=aSl hs (x:=1) (y:=1) (by decide) (by decide) T hi hj
   have ef:(fun i j=>1*mv 3000 L n i j)=fun i j=>mv 3000 L n i j:=by funext i j;exact Int.one_mul _
   rw[ef,aIu (N':=fun i j=>mv 3000 B n i j) (fun i j hi hj=>by rw[e i j hi hj];show(1+1)*mv 3000 L n i j=mv 3000 L n i j*2;omega) _ T hi hj,Int.mul_comm (((T+1:Nat):Int)*((T+1:Nat):Int))]at hm
   have hq0:(0:Int)<2^(T+1):=Int.pow_pos (by omega)
   have hb:(((T+1:Nat):Int)*((T+1:Nat):Int))*p2 K<2^(T+1):=by
    rw[Int.pow_zero,Int.one_mul]at hbig;exact hbig
   exact⟨atk hD hq0 (Int.le_of_lt hpK) r1.1 r2.2 hm hb,aHv hD hq0 (Int.le_of_lt hpK) r1.2 r2.1 hm hb⟩
  ·
   obtain⟨T,hT⟩:∃T,T=max (tmF (YD n L low)) (tmF (YD n B low)):=⟨_,rfl⟩
   have hD:=jj (jy hs.pos T) (exS n L)
   have hDD:=Int.mul_pos hD hD
   have r1:=abf (prod T (by omega)) kP hDD hi hj
   have hgb:rtM n (gB n B (exS n L+1)) (fun i j=>mv 3000 L n i j) (p2 (3000+exS n L)):=by
    refine aGw (q:=2) (by decide) ?_
    have:=yQ (aWv (s:=exS n L+1) hB.len (hB.eK (Nat.le_refl _))) e
    rw[show p2 (3000+(exS n L+1))=p2 (3000+exS n L)*2 from zv (3000+exS n L) 1]at this
    exact this
   have w:=asE h.n1 yl (abE (s:=exS n L+1) (B:=YD n B low) (low:=low) h.n1 (by omega) f.lo.2 hs hgb (T:=T) (by omega))
   have ew:(yb n B (exS n L+1) (YD n B low) low).map SpV.can=exT n B low:=by unfold exT exH;rw[e1]
   rw[ew]at w
   have r2:=abf w kW hDD hi hj
   have l1:=Int.le_trans r1.1 r2.2
   have l2:=Int.le_trans r2.1 r1.2
   exact⟨Int.le_of_mul_le_mul_right l1 hDD,Int.le_of_mul_le_mul_right l2 hDD⟩
 intro i hi
 obtain⟨h1,h2⟩:=JN hi
 have q:=key _ _ h1 h2
 rw[ahn]at q
 have o1:=g3.ok _ (aa9 (l:=(qC n (exT n L low) (exT n L low)).map SpV.can) (i:=i) (by rw[g3.len];exact hi))
 have o2:=iw.ok _ (aa9 (l:=exT n B low) (i:=i) (by rw[iw.len];exact hi))
 rw[g2]
 refine aQU (K:=K) o1 o2 (by omega) ?_ ?_
 ·rw[zz (by rw[lP];exact hi) sp0]
  show(ExV.can _).val K≤_
  rw[QG (kP i hi).1];exact q.1
 ·rw[zz (by rw[lP];exact hi) sp0]
  show _≤(ExV.can _).val K
  rw[QG (kP i hi).2];exact q.2
set_option maxRecDepth 100000 in
theorem aby(l:List UInt8)(hl:l.length≤9223372036854775807):Con Tryz.prog 3 true [.sl l.length (qj l)] [] (isA (.v (.bool true))):=by
 refine Con.of_w (rs:=[.tmp 2]) Tryz.func3 rfl Tryz.ntmps3 rfl ?_
 simp(disch:=omega)only[go_sem]
 refine zk (J2 l hl) (by simp(disch:=omega)only[go_sem]) ?_
 rintro r hs ⟨rfl, -,⟨k,M,low,⟨a1,a2⟩,hlow,rfl⟩⟩
 refine⟨by simp[qR],?_⟩
 simp(disch:=omega)only[go_sem]
 cases hB:amn k M
 ·have ca:=Qn k M low a1 a2 hB
  have ce:=jM _ low ca ⟨_,_,_,rfl⟩
  refine qa (ce) ?_
  simp(disch:=omega)only[go_sem]
  refine ql (ab9) ?_
  simp(disch:=omega)only[go_sem]
  exact qB
 obtain⟨n,L,rfl,rfl,h⟩:=aV7 hB
 rw[aGz,List.length_map]
 cases ha:avA n L low
 ·have ca:=y0 n L low h
  rw[ha]at ca
  have ce:=jM _ low ca ⟨_,_,_,rfl⟩
  refine qa (ce) ?_
  simp(disch:=omega)only[go_sem]
  refine ql (ab9) ?_
  simp(disch:=omega)only[go_sem]
  exact qB
 have c1:=ZG n L low h ha
 have i1:=(Q0 h (yt h ha)).1
 have cs:=XT n L at4 h (by decide+kernel)
 have cd:=aSF 2 0 (by omega) (by omega)
 rw[show(ExV.mk (decide ((2:Int)<0)) (2:Int).natAbs 0).tel=at4 by decide+kernel]at cd
 have cm:=XU n (exT n L low) (exT n L low) i1 i1
 have hgo:=biB (l:=qF n L at4) h.n1 h.n4 z7
 have hmv:∀i j,i<n→j<n→mv 3000 ((qF n L at4).map ExV.can) n i j=mv 3000 L n i j*2:=fun i j hi hj=>by
  have:=as8 (K:=3000) (K':=0) (y:=at4) (h.eK (Nat.le_refl _)) (by show-((0:Nat):Int)≤1;omega) h.len hi hj
  rw[show at4.val 0=2 by decide+kernel]at this
  exact this
 have hme:=fun hBm ha' hf=>ahO (B:=(qF n L at4).map ExV.can) (low:=low) h hBm hmv ha ha' hf
 have cz:=Qn ((0:Nat):Int) [] low (by simp) (by simp) (bit [])
 have cz2:=jM _ low cz ⟨_,_,_,rfl⟩
 change Con _ _ _ [.ag [.v (.int .i64 ((0:Nat):Int)),.sl 0 []],_] _ _ at cz2
 have gN0:(qF n L at4).all ExV.fit=false→gN n (qF n L at4)=0∧gT (qF n L at4)=[]:=fun hf=>⟨if_neg (by rw[hf];simp),if_neg (by rw[hf];simp)⟩
 generalize at4=y1 at*
 generalize gT (qF n L y1)=B at*
 generalize gN n (qF n L y1)=N at*
 generalize (qF n L y1).map ExV.can=B' at*
 cases hfit:(qF n L y1).all ExV.fit
 ·obtain⟨rfl,rfl⟩:=gN0 hfit
  rw[hfit]at cs
  change Con _ _ _ _ _ (isA (.tu [.ag [.v (.int .i64 ((0:Nat):Int)),.sl 0 []],.v (.bool false)]))at cs
  generalize exT n L low=S at*
  refine qa (c1) ?_
  simp(disch:=omega)only[go_sem]
  refine qv rfl [⟨0,[],[]⟩,⟨6,[0],[]⟩,⟨1,[0],[90000000]⟩,⟨2,[],[90000000]⟩,⟨3,[],[90000000]⟩,⟨4,[],[90000000]⟩,⟨5,[],[90000000]⟩,⟨7,[],[]⟩,⟨8,[],[]⟩] (by kernel_rfl) ?_
  simp(disch:=omega)only[go_sem]
  refine qa (cd) ?_
  simp(disch:=omega)only[go_sem]
  refine qa (cs) ?_
  simp(disch:=omega)only[go_sem]
  refine qa (cz2) ?_
  simp(disch:=omega)only[go_sem]
  refine qa (cm) ?_
  simp(disch:=omega)only[go_sem]
  exact qB
 ·obtain⟨q1,q2,q3⟩:=hgo hfit
  subst q1 q2
  rw[hfit]at cs
  cases hb:avA N B low
  ·have ca:=y0 N B low q3
   rw[hb]at ca
   have ce:=jM _ low ca ⟨_,_,_,rfl⟩
   generalize exT N L low=S at*
   refine qa (c1) ?_
   simp(disch:=omega)only[go_sem]
   refine qv rfl [⟨0,[],[]⟩,⟨6,[0],[]⟩,⟨1,[0],[90000000]⟩,⟨2,[],[90000000]⟩,⟨3,[],[90000000]⟩,⟨4,[],[90000000]⟩,⟨5,[],[90000000]⟩,⟨7,[],[]⟩,⟨8,[],[]⟩] (by kernel_rfl) ?_
   simp(disch:=omega)only[go_sem]
   refine qa (cd) ?_
   simp(disch:=omega)only[go_sem]
   refine qa (cs) ?_
   simp(disch:=omega)only[go_sem]
   refine qa (ce) ?_
   simp(disch:=omega)only[go_sem]
   refine qa (cm) ?_
   simp(disch:=omega)only[go_sem]
   exact qB
  ·have c2:=ZG N B low q3 hb
   have i2:=(Q0 q3 (yt q3 hb)).1
   have hme2:=hme q3 hb
   have cME:=fun P hP hm=>J1 N P (exT N B low) hP i2 hm
   generalize exT N L low=S at*
   generalize exT N B low=S' at*
   generalize fT (qC N S S)=P at*
   generalize fN N (qC N S S)=N2 at*
   generalize (qC N S S).all SpV.fit=b at*
   refine qa (c1) ?_
   simp(disch:=omega)only[go_sem]
   refine qv rfl [⟨0,[],[]⟩,⟨6,[0],[]⟩,⟨1,[0],[90000000]⟩,⟨2,[],[90000000]⟩,⟨3,[],[90000000]⟩,⟨4,[],[90000000]⟩,⟨5,[],[90000000]⟩,⟨7,[],[]⟩,⟨8,[],[]⟩] (by kernel_rfl) ?_
   simp(disch:=omega)only[go_sem]
   refine qa (cd) ?_
   simp(disch:=omega)only[go_sem]
   refine qa (cs) ?_
   simp(disch:=omega)only[go_sem]
   refine qa (c2) ?_
   simp(disch:=omega)only[go_sem]
   refine qa (cm) ?_
   simp(disch:=omega)only[go_sem]
   cases b
   ·simp(disch:=omega)only[go_sem]
    exact qB
   ·obtain⟨r1,r2,r3⟩:=hme2 rfl
    subst r1
    have c3:=cME P r2 r3
    simp(disch:=omega)only[go_sem]
    refine ql (c3) ?_
    simp(disch:=omega)only[go_sem]
    exact qB
end Go.Ab
namespace Go.Proofs.YtgkehjnacdccfaaGreatDoor
open Go.ChangeShapes Go.WideShapes Go.ChangeAt Go.RowKit Go.Ab
theorem own:ownKnob Tryz.prog.godebug=none:=by kernel_rfl
theorem ato:laidOutB Tryz.prog=true:=by kernel_rfl
theorem ask:Tryz.prog.globalNamed "math/bits.deBruijn64tab" =some 1:=by kernel_rfl
theorem aO8:(Tryz.prog.globals[1]?).map (·.type)=some 285:=by kernel_rfl
theorem aO7:Tryz.prog.underlying 285=some (.array 64 5):=by kernel_rfl
theorem aPb:Tryz.prog.underlying 5=some (.int .u8):=by kernel_rfl
theorem aPc:Tryz.prog.cellsOf 5=1:=by kernel_rfl
theorem aO9:Tryz.prog.cellsOf 285=64:=by kernel_rfl
noncomputable def Qc:List (String×DataW Unit):=[("math/bits.deBruijn32tab",Rows.laid_math_bits_deBruijn32tab),("math/bits.deBruijn64tab",Rows.laid_math_bits_deBruijn64tab)]
theorem aPa{W:World}(h:laidMetH Tryz.prog Qc W):Gd W:=by
 have h':laidMet Tryz.prog Qc W:=h
 have h2:laidMet Tryz.prog [("math/bits.deBruijn64tab",Lib.tabData .u8 (Lib.deBruijn64tab.map Int.ofNat))] W:=laidMet.tail h'
 have hT:=Lib.tabIs_of_head ask aO8 aO7 aPb aPc aO9 h2
 intro g l hg
 unfold glb at hg
 split at hg
 ·rename_i e
  subst e
  cases hg
  have hc:∀i,i<Lib.deBruijn64tab.length→W.cell? ⟨1,i,none⟩=some (.int .u8 ((Lib.deBruijn64tab.getD i 0:Nat):Int)):=fun i hi=>by
   have:=hT.cell ask i (by simpa using hi)
   rw[this]
   simp[List.getD,hi]
  exact⟨ahG (hc 0 (by decide)),hc⟩
 ·cases hg
noncomputable def abz(os:Os):World:=
 let w0:=World.holding Tryz.prog os ⟨#[],#[],[]⟩
 {w0 with heap:=(w0.heap.modify 1 fun
   | .cells _ t frozen=>.cells (Lib.deBruijn64tab.map fun z=>Value.int .u8 (Int.ofNat z)).toArray t frozen
   |o=>o).modify 0 fun
   | .cells _ t frozen=>.cells (Lib.deBruijn32tab.map fun z=>Value.int .u8 (Int.ofNat z)).toArray t frozen
   |o=>o}
theorem Xo(os:Os)(args:Array Value):laidMetH Tryz.prog Qc ((abz os).forCall (fun _ _=>0) ⟨#[],args,[]⟩).memory:=
 laidMetH_of_parts (laidMet_of_run' 8 (by kernel_rfl) (by kernel_rfl)) (by kernel_rfl)
end Go.Proofs.YtgkehjnacdccfaaGreatDoor
