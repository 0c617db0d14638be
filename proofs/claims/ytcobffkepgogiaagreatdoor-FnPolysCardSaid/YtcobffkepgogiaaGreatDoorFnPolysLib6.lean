/- What the proof of this claim stands on: the walks of the functions and the plain laws, part 6. -/
import Derived.Test.YtcobffkepgogiaaGreatDoorFnPolysLib5
import Derived.Test.YtcobffkepgogiaaGreatDoorRows
import Derived.Test.YtcobffkepgogiaaGreatDoorCards
import Derived.Test.YtcobffkepgogiaaGreatDoorTie
import Derived.Handed
import Derived.ChangeSame
import Derived.JoinedOf
import Derived.RowKit
import Derived.WalkKit
import Derived.ProofKit
import Derived.OpenShut
import Derived.LaidLaws
import Derived.LaidHandle
import Derived.SevenTiedAt
import Derived.Stop.LaidErr
import Derived.Lib.LaidTab
set_option linter.unusedVariables false
set_option linter.unusedSimpArgs false
namespace Go.Ab
/-! ### Ranks-/
theorem ZH{f:Nat→Int}{k:Nat}:∀{m:Nat},k≤m→(∀i,k≤i→f i=0)→qB f m=qB f k
 |0,h,_=>by
  obtain rfl:k=0:=by omega
  rfl
 |m+1,h,hz=>by
  by_cases e:k=m+1
  ·rw[e]
  ·rw[qB,ZH (by omega) hz,hz m (by omega),Int.add_zero]
def ajv(n k:Nat)(A:Nat→Nat→Int):Prop:=∃(c:Int) (B C:Nat→Nat→Int),c≠0∧∀i j,i<n→j<n→c*A i j=qB (fun t=>B i t*C t j) k
theorem QJ{n k:Nat}{A A':Nat→Nat→Int}(h:∀i j,i<n→j<n→A i j=A' i j):ajv n k A→ajv n k A'
 |⟨c,B,C,h0,h1⟩=>⟨c,B,C,h0,fun i j hi hj=>by rw[←h i j hi hj];exact h1 i j hi hj⟩
theorem KR{n k:Nat}{A:Nat→Nat→Int}:ajv n k A→ajv n k (fun i j=>A j i)
 |⟨c,B,C,h0,h1⟩=>⟨c,fun i t=>C t i,fun t j=>B j t,h0,fun i j hi hj=>by
  rw[h1 j i hj hi];exact qG fun t _=>Int.mul_comm _ _⟩
theorem Yt(n k:Nat)(f:Nat→Int)(g:Nat→Nat→Int)(h:Nat→Int):qB (fun s=>qB (fun t=>f t*g t s) k*h s) n=qB (fun t=>f t*qB (fun s=>g t s*h s) n) k:=by
 have e1:qB (fun s=>qB (fun t=>f t*g t s) k*h s) n=qB (fun s=>qB (fun t=>f t*(g t s*h s)) k) n:=
  qG fun s _=>by rw[←yD];exact qG fun t _=>Int.mul_assoc _ _ _
 have e2:qB (fun t=>f t*qB (fun s=>g t s*h s) n) k=qB (fun t=>qB (fun s=>f t*(g t s*h s)) n) k:=
  qG fun t _=>by rw[←yE]
 rw[e1,e2,JO]
theorem aoQ{n k:Nat}{A:Nat→Nat→Int}(D:Nat→Nat→Int):ajv n k A→ajv n k (ye n A D)
 |⟨c,B,C,h0,h1⟩=>⟨c,B,ye n C D,h0,fun i j hi hj=>by
  show c*qB (fun t=>A i t*D t j) n=qB (fun t=>B i t*qB (fun s=>C t s*D s j) n) k
  rw[←Yt,←yE]
  exact qG fun s hs=>by rw[←h1 i s hi hs,Int.mul_assoc]⟩
theorem KS{n k:Nat}{A:Nat→Nat→Int}(D:Nat→Nat→Int):ajv n k A→ajv n k (ye n D A)
 |⟨c,B,C,h0,h1⟩=>⟨c,ye n D B,C,h0,fun i j hi hj=>by
  show c*qB (fun t=>D i t*A t j) n=qB (fun t=>qB (fun s=>D i s*B s t) n*C t j) k
  rw[Yt,←yE]
  exact qG fun s hs=>by rw[←h1 s j hs hj,Int.mul_left_comm]⟩
def dgI(c:Int)(i j:Nat):Int:=if i=j then c else 0
theorem aPH{n:Nat}(c:Int)(A:Nat→Nat→Int){i j:Nat}(hi:i<n):ye n (dgI c) A i j=c*A i j:=by
 unfold ye
 rw[jq (j:=i) hi (fun t _ hne=>by unfold dgI;rw[if_neg (fun h=>hne h.symm),Int.zero_mul])]
 unfold dgI;rw[if_pos rfl]
theorem aTL{n:Nat}(hn:n≤4){c:Int}(hc:c≠0):zH n (dgI c)≠0:=by
 rcases(show n=0∨n=1∨n=2∨n=3∨n=4 by omega)with rfl|rfl|rfl|rfl|rfl
 ·intro h;cases h
 ·rw[aeq];simp[dgI,hc]
 ·rw[abb];simp[dgI,hc]
 ·rw[aba];simp[dgI,hc]
 ·rw[asg];simp[dgI,hc]
theorem aDw{n:Nat}(hn:n≤4)(h1:1≤n){A:Nat→Nat→Int}(h:∀i,A i (n-1)=0):zH n A=0:=by
 rcases(show n=1∨n=2∨n=3∨n=4 by omega)with rfl|rfl|rfl|rfl
 ·have:=h 0
  rw[aeq];simpa using this
 ·have h:∀i,A i 1=0:=h
  rw[abb];simp[h]
 ·have h:∀i,A i 2=0:=h
  rw[aba];simp[h]
 ·have h:∀i,A i 3=0:=h
  rw[asg];simp[h]
theorem aBh{n k:Nat}(hn:n≤4)(hk:k<n){A:Nat→Nat→Int}:ajv n k A→zH n A=0
 |⟨c,B,C,h0,h1⟩=>by
  have e:zH n (ye n (dgI c) A)=zH n (ye n (fun i t=>if t<k then B i t else 0) C):=jv fun i j hi hj=>by
   rw[aPH c A hi,h1 i j hi hj]
   show _=qB (fun t=>(if t<k then B i t else 0)*C t j) n
   rw[ZH (f:=fun t=>(if t<k then B i t else 0)*C t j) (k:=k) (by omega) (fun t ht=>by rw[if_neg (by omega),Int.zero_mul])]
   exact qG fun t ht=>by rw[if_pos ht]
  rw[Je hn,Je hn,aDw hn (by omega) (A:=fun i t=>if t<k then B i t else 0) (fun i=>if_neg (by omega)),Int.zero_mul]at e
  exact(Int.mul_eq_zero.1 e).resolve_left (aTL hn h0)
theorem aqI{r:Nat}(hr:r≤4){T:Nat→Nat→Int}(hd:∀t,t<r→T t t≠0)(hz:∀s t,t<s→s<r→T s t=0):zH r T≠0:=by
 rcases(show r=0∨r=1∨r=2∨r=3∨r=4 by omega)with rfl|rfl|rfl|rfl|rfl
 ·intro h;cases h
 ·rw[aeq];exact hd 0 (by omega)
 ·rw[abb,hz 1 0 (by omega) (by omega)]
  simp[hd 0 (by omega),hd 1 (by omega)]
 ·rw[aba,hz 1 0 (by omega) (by omega),hz 2 0 (by omega) (by omega),hz 2 1 (by omega) (by omega)]
  simp[hd 0 (by omega),hd 1 (by omega),hd 2 (by omega)]
 ·rw[asg,hz 1 0 (by omega) (by omega),hz 2 0 (by omega) (by omega),hz 2 1 (by omega) (by omega),hz 3 0 (by omega) (by omega),hz 3 1 (by omega) (by omega),hz 3 2 (by omega) (by omega)]
  simp[hd 0 (by omega),hd 1 (by omega),hd 2 (by omega),hd 3 (by omega)]
structure isRank(n:Nat)(A:Nat→Nat→Int)(r:Nat):Prop where
 le:r≤n
 up:ajv n r A
 low:∀k,ajv n k A→r≤k
 full:r=n→zH n A≠0
theorem isRank.turn{n r s:Nat}{A:Nat→Nat→Int}(h:isRank n A r)(g:isRank n (fun i j=>A j i) s):s=r:=
 Nat.le_antisymm (g.low r (KR h.up)) (h.low s (KR g.up))
theorem isRank.congr{n r:Nat}{A B:Nat→Nat→Int}(h:isRank n A r)(e:∀i j,i<n→j<n→A i j=B i j):isRank n B r:=
 ⟨h.le,QJ e h.up,fun k hk=>h.low k (QJ (fun i j hi hj=>(e i j hi hj).symm) hk),fun hr=>by rw[←jv e];exact h.full hr⟩
theorem isRank.mul{n r s t:Nat}{A B:Nat→Nat→Int}(h:isRank n A r)(g:isRank n B s)(p:isRank n (ye n A B) t):t≤r∧t≤s:=
 ⟨p.low r (aoQ B h.up),p.low s (KS A g.up)⟩
structure elim(n:Nat)(A C:Nat→Nat→Int)(r j:Nat):Prop where
 le:r≤n
 rj:r≤j
 u:∃U:Nat→Nat→Int,zH n U≠0∧∀i k,i<n→k<n→C i k=ye n U A i k
 p:∃p:Nat→Nat,∀t,t<r→p t<j∧p t<n∧C t (p t)≠0∧∀s,t<s→s<n→C s (p t)=0
 z:∀i k,r≤i→i<n→k<j→k<n→C i k=0
theorem J0(n:Nat)(A B C:Nat→Nat→Int)(i j:Nat):ye n (ye n A B) C i j=ye n A (ye n B C) i j:=
 Yt n n (fun t=>A i t) B (fun s=>C s j)
theorem elim.rank{n:Nat}(hn:n≤4){A C:Nat→Nat→Int}{r:Nat}(h:elim n A C r n):isRank n A r:=by
 obtain⟨hle, -,⟨U,hU,hC⟩,⟨p,hp⟩,hz⟩:=h
 have lowC:∀k,ajv n k C→r≤k:=fun k hk=>by
  rcases Nat.lt_or_ge k r with g|g
  ·exfalso
   obtain⟨c,B,D,h0,h1⟩:=hk
   have ht:ajv r k (fun s t=>C s (p t)):=⟨c,B,fun u t=>D u (p t),h0,fun s t hs ht=>h1 s (p t) (by omega) (hp t ht).2.1⟩
   exact aqI (by omega) (fun t ht=>(hp t ht).2.2.1) (fun s t hst hs=>(hp t (by omega)).2.2.2 s hst (by omega)) (aBh (by omega) g ht)
  ·exact g
 refine⟨hle,?_,fun k hk=>lowC k (QJ (fun i j hi hj=>(hC i j hi hj).symm) (KS U hk)),fun hr hd=>?_⟩
 ·
  obtain⟨V,hV⟩:∃V:Nat→Nat→Int,∀i j,i<n→j<n→ye n V U i j=if i=j then zH n U else 0:=by
   refine⟨fun i j=>aNK n (fun a b=>U b a) j i,fun i j hi hj=>?_⟩
   have:=aNo hn (fun a b=>U b a) hj hi
   rw[aDv hn]at this
   have e2:(if i=j then zH n U else 0)=if j=i then zH n U else 0:=by
    by_cases e:i=j
    ·rw[if_pos e,if_pos e.symm]
    ·rw[if_neg e,if_neg (fun h=>e h.symm)]
   rw[e2,←this]
   exact qG fun t _=>Int.mul_comm _ _
  refine⟨zH n U,V,C,hU,fun i j hi hj=>?_⟩
  have e1:qB (fun t=>V i t*C t j) r=qB (fun t=>V i t*C t j) n:=by
   have:qB (fun t=>V i t*C t j) n=qB (fun t=>if t<r then V i t*C t j else 0) n:=qG fun t ht=>by
    by_cases g:t<r
    ·rw[if_pos g]
    ·rw[if_neg g,hz t j (by omega) ht hj hj,Int.mul_zero]
   rw[this,ZH hle (fun t ht=>if_neg (by omega))]
   exact qG fun t ht=>by rw[if_pos ht]
  rw[e1]
  have e2:qB (fun t=>V i t*C t j) n=ye n (ye n V U) A i j:=by
   rw[J0]
   exact qG fun t ht=>by rw[hC t j ht hj]
  rw[e2]
  show _=qB (fun t=>ye n V U i t*A t j) n
  rw[jq (j:=i) hi (fun t ht hne=>by rw[hV i t hi ht,if_neg (fun h=>hne h.symm),Int.zero_mul]),hV i i hi hi,if_pos rfl]
 ·subst hr
  have h1:zH r C=0:=by
   rw[jv hC,Je hn,hd,Int.mul_zero]
  have h2:zH r (ye r C (fun u t=>if u=p t then 1 else 0))=0:=by rw[Je hn,h1,Int.zero_mul]
  refine aqI hn (T:=fun s t=>C s (p t)) (fun t ht=>(hp t ht).2.2.1) (fun s t hst hs=>(hp t (by omega)).2.2.2 s hst (by omega)) ?_
  rw[←h2]
  refine jv fun i j hi hj=>?_
  show C i (p j)=qB (fun u=>C i u*(if u=p j then 1 else 0)) r
  rw[jq (j:=p j) (hp j hj).2.1 (fun t _ hne=>by rw[if_neg hne,Int.mul_zero]),if_pos rfl,Int.mul_one]
theorem elim.skip{n:Nat}{A C:Nat→Nat→Int}{r j:Nat}(h:elim n A C r j)(hz:∀i,r≤i→i<n→C i j=0):elim n A C r (j+1):=by
 obtain⟨h1,h2,h3,⟨p,hp⟩,h5⟩:=h
 refine⟨h1,by omega,h3,⟨p,fun t ht=>⟨by have:=(hp t ht).1;omega,(hp t ht).2⟩⟩,fun i k hi hin hk hkn=>?_⟩
 rcases(show k<j∨k=j by omega)with g|rfl
 ·exact h5 i k hi hin g hkn
 ·exact hz i hi hin
def swI(a b i:Nat):Nat:=if i=a then b else if i=b then a else i
theorem aqJ{n:Nat}(hn:n≤4){a r:Nat}(ha:a<n)(hr:r<n)(hne:a≠r)(p q:Int)(hp:p≠0):zH n (fun i j=>if i=a then(if j=a then p else if j=r then-q else 0)else if i=j then 1 else 0)≠0:=by
 rcases(show n=1∨n=2∨n=3∨n=4 by omega)with rfl|rfl|rfl|rfl
 ·omega
 ·rw[abb]
  rcases(show a=0∨a=1 by omega)with rfl|rfl<;>rcases(show r=0∨r=1 by omega)with rfl|rfl<;>first|omega|simp[hp]
 ·rw[aba]
  rcases(show a=0∨a=1∨a=2 by omega)with rfl|rfl|rfl<;>rcases(show r=0∨r=1∨r=2 by omega)with rfl|rfl|rfl<;>first|omega|simp[hp]
 ·rw[asg]
  rcases(show a=0∨a=1∨a=2∨a=3 by omega)with rfl|rfl|rfl|rfl<;>rcases(show r=0∨r=1∨r=2∨r=3 by omega)with rfl|rfl|rfl|rfl<;>first|omega|simp[hp]
structure elimR(n:Nat)(A C:Nat→Nat→Int)(r j m:Nat):Prop where
 rn:r<n
 rj:r≤j
 jn:j<n
 rm:r<m
 u:∃U:Nat→Nat→Int,zH n U≠0∧∀i k,i<n→k<n→C i k=ye n U A i k
 p:∃p:Nat→Nat,∀t,t<r→p t<j∧p t<n∧C t (p t)≠0∧∀s,t<s→s<n→C s (p t)=0
 z:∀i k,r≤i→i<n→k<j→k<n→C i k=0
 pv:C r j≠0
 zm:∀i,r<i→i<m→i<n→C i j=0
theorem elim.pivot{n:Nat}{A C:Nat→Nat→Int}{r j:Nat}(h:elim n A C r j)(hr:r<n)(hj:j<n)(hp:C r j≠0):elimR n A C r j (r+1):=
 ⟨hr,h.rj,hj,by omega,h.u,h.p,h.z,hp,fun i h1 h2=>by omega⟩
theorem elimR.done{n:Nat}{A C:Nat→Nat→Int}{r j m:Nat}(h:elimR n A C r j m)(hm:n≤m):elim n A C (r+1) (j+1):=by
 obtain⟨h1,h2,h3,h4,h5,⟨p,hp⟩,h7,h8,h9⟩:=h
 refine⟨by omega,by omega,h5,⟨fun t=>if t=r then j else p t,fun t ht=>?_⟩,fun i k hi hin hk hkn=>?_⟩
 ·dsimp only
  by_cases e:t=r
  ·rw[if_pos e,e]
   exact⟨by omega,h3,h8,fun s hs hsn=>h9 s hs (by omega) hsn⟩
  ·rw[if_neg e]
   obtain⟨a,b,c,d⟩:=hp t (by omega)
   exact⟨by omega,b,c,d⟩
 ·rcases(show k<j∨k=j by omega)with g|rfl
  ·exact h7 i k (by omega) hin g hkn
  ·exact h9 i (by omega) (by omega) hin
theorem elimR.step{n:Nat}(hn:n≤4){A C C':Nat→Nat→Int}{r j m:Nat}(h:elimR n A C r j m)(hm:m<n)(h1:∀i k,i<n→k<n→i≠m→C' i k=C i k)(h2:∀k,k<n→C' m k=C m k*C r j-C r k*C m j):elimR n A C' r j (m+1):=by
 obtain⟨g1,g2,g3,g4,⟨U,hU,hC⟩,⟨p,hp⟩,g7,g8,g9⟩:=h
 refine⟨g1,g2,g3,by omega,⟨ye n (fun i k=>if i=m then(if k=m then C r j else if k=r then-C m j else 0)else if i=k then 1 else 0) U,?_,fun i k hi hk=>?_⟩,⟨p,fun t ht=>?_⟩,fun i k hi hin hk hkn=>?_,?_,fun i hi him hin=>?_⟩
 ·rw[Je hn]
  intro e
  rcases Int.mul_eq_zero.1 e with e|e
  ·exact aqJ hn hm g1 (by omega) (C r j) (C m j) g8 e
  ·exact hU e
 ·rw[J0]
  show C' i k=qB (fun t=>(if i=m then(if t=m then C r j else if t=r then-C m j else 0)else if i=t then 1 else 0)*ye n U A t k) n
  by_cases e:i=m
  ·subst e
   have e2:qB (fun t=>(if i=i then(if t=i then C r j else if t=r then-C i j else 0)else if i=t then 1 else 0)*ye n U A t k) n=qB (fun t=>(if t=i then C r j*C i k else 0)+(if t=r then-C i j*C r k else 0)) n:=qG fun t ht=>by
    rw[if_pos rfl,←hC t k ht hk]
    by_cases a:t=i
    ·rw[if_pos a,if_pos a,if_neg (show ¬t=r by omega),a,Int.add_zero]
    ·rw[if_neg a,if_neg a]
     by_cases b:t=r
     ·rw[if_pos b,if_pos b,b,Int.zero_add]
     ·rw[if_neg b,if_neg b,Int.zero_mul,Int.add_zero]
   rw[e2,ZI,jq (j:=i) hi (fun t _ hne=>if_neg hne),jq (j:=r) g1 (fun t _ hne=>if_neg hne),if_pos rfl,if_pos rfl,h2 k hk,Int.mul_comm (C i k),Int.neg_mul,Int.mul_comm (C r k)]
   omega
  ·rw[jq (j:=i) hi (fun t _ hne=>by rw[if_neg e,if_neg (fun h=>hne h.symm),Int.zero_mul]),if_neg e,if_pos rfl,Int.one_mul,h1 i k hi hk e]
   exact hC i k hi hk
 ·obtain⟨a,b,c,d⟩:=hp t ht
  refine⟨a,b,?_,fun s hts hsn=>?_⟩
  ·rw[h1 t (p t) (by omega) b (by omega)];exact c
  ·by_cases e:s=m
   ·rw[e,h2 _ b,d m (by omega) hm,d r (by omega) g1];simp
   ·rw[h1 s _ hsn b e];exact d s hts hsn
 ·by_cases e:i=m
  ·rw[e,h2 k hkn,g7 m k (by omega) hm hk hkn,g7 r k (by omega) g1 hk hkn];simp
  ·rw[h1 i k hin hkn e];exact g7 i k hi hin hk hkn
 ·rw[h1 r j g1 g3 (by omega)];exact g8
 ·by_cases e:i=m
  ·rw[e,h2 j g3,Int.mul_comm];omega
  ·rw[h1 i j hin g3 e];exact g9 i hi (by omega) hin
end Go.Ab
namespace Go.Ab
/-! ### Sums of powers of a matrix,at one scale-/
def p2(k:Nat):Int:=2^k
theorem apv(a b:Nat):p2 (a+b)=p2 a*p2 b:=Int.pow_add 2 a b
theorem aPm(a:Nat):0<p2 a:=Int.pow_pos (by omega)
theorem aBW{a b c:Nat}(h:a=b+c):p2 a=p2 b*p2 c:=by rw[h,apv]
def aOY(n:Nat)(P:Nat→Int)(A:Nat→Nat→Int)(m i j:Nat):Int:=qB (fun t=>P t*Zi n A t i j*p2 (40000-3000*(t+1))) m
end Go.Ab
namespace Go.Ab
open Go Go.Proofs
/-! ### What polynomials of a matrix are worth-/
theorem aqe{K:Nat}{hi:Int}{L:List ExV}(h:gbd (-K) hi L):eK K L:=fun x hx=>(h x hx).2.1
theorem aZ9{K j' n:Nat}{L:List ExV}{i j:Nat}(hl:L.length=n*n)(hK:eK K L)(hi:i<n)(hj:j<n):mv (K+j') L n i j=mv K L n i j*p2 j':=
 akQ (y3 hK (by rw[hl];exact qN hi hj))
theorem aBR{K K' n:Nat}{L L':List ExV}{i j:Nat}(h:eK K L)(h':eK K' L')(hl:L.length=n*n)(hl':L'.length=n*n)(hi:i<n)(hj:j<n):mv (K+K') (Q7 n L L') n i j=ye n (mv K L n) (mv K' L' n) i j:=by
 obtain⟨h1,h2⟩:=afE h h' hl hl' hi hj n (Nat.le_refl n)
 show(_:ExV).val _=_
 unfold Q7
 rw[aqc hi hj,h1];rfl
theorem aJ7{K n:Nat}{L L':List ExV}{i j:Nat}(h:eK K L)(h':eK K L')(hl:L.length=n*n)(hl':L'.length=n*n)(hi:i<n)(hj:j<n):mv K (YR n L L') n i j=mv K L n i j+mv K L' n i j:=by
 have a:=y3 h (i:=i*n+j) (by rw[hl];exact qN hi hj)
 have b:=y3 h' (i:=i*n+j) (by rw[hl'];exact qN hi hj)
 show(_:ExV).val _=_
 unfold YR
 rw[aqc hi hj,j7 a b];rfl
theorem K3{K K' n:Nat}{L:List ExV}{y:ExV}{i j:Nat}(h:eK K L)(hy: -(K':Int)≤y.e)(hl:L.length=n*n)(hi:i<n)(hj:j<n):mv (K+K') (za n L y) n i j=mv K L n i j*y.val K':=by
 have a:=y3 h (i:=i*n+j) (by rw[hl];exact qN hi hj)
 show(_:ExV).val _=_
 unfold za
 rw[aqc hi hj,ZB a hy];rfl
theorem apq{n:Nat}{L:List ExV}(h:matV n L)(k:Nat):eK (3000*k) (ZT n L k):=aqe (hi:=4604*k+1) (qT (QN h k) (by omega) (by omega))
theorem afi{n:Nat}{L:List ExV}(h:matV n L):∀(k:Nat) {i j:Nat},i<n→j<n→mv (3000*k) (ZT n L k) n i j=Zi n (mv 3000 L n) k i j
 |0,i,j,hi,hj=>by
  rw[ZT,Nat.mul_zero,aPY hi hj];rfl
 |k+1,i,j,hi,hj=>by
  rw[ZT,Nat.mul_succ,aBR (apq h k) (h.eK (by omega)) (j6 k) h.len hi hj]
  exact qG fun t ht=>by rw[afi h k hi ht]
theorem aoZ{n:Nat}{L p:List ExV}(h:matV n L)(hp:∀x∈p,x.ok=true)(k:Nat)(hk:k≤12):eK 40000 (yU n L p k):=aqe (hi:=60000+k) (qT (adQ h hp k hk) (by omega) (by omega))
theorem afd{n:Nat}{L p:List ExV}(h:matV n L)(hp:∀x∈p,x.ok=true):∀(k:Nat),k≤12→∀{i j:Nat},i<n→j<n→mv 40000 (yU n L p k) n i j=aOY n (fun t=>(p.getD t ex0).val 3000) (mv 3000 L n) k i j
 |0,_,i,j,hi,hj=>by
  have:=K3 (K:=40000) (K':=0) (y:=ex0) (fun x hx=>by have:=(afy x hx).2.1;omega) (by show-((0:Nat):Int)≤0;omega) YS hi hj
  rw[yv,Int.mul_zero]at this
  rw[yU];exact this
 |k+1,hk,i,j,hi,hj=>by
  have oy:=aUP hp k
  have ey:=(jt oy).1.1
  have a:=aoZ h hp k (by omega)
  have b:eK 40000 (za n (ZT n L k) (p.getD k ex0)):=aqe (hi:=60000) (qT (YA h hp k (by omega)) (by omega) (by omega))
  have b':eK (3000*k+3000) (za n (ZT n L k) (p.getD k ex0)):=fun x hx=>by
   have:=(Qd (j6 k) (QN h k) (ad3 oy) x hx).2.1
   omega
  rw[yU,aJ7 a b (jz k) (by unfold za;exact jh) hi hj,afd h hp k (by omega) hi hj]
  show _=aOY n _ _ k i j+_
  congr 1
  have e1:=K3 (apq h k) (K':=3000) (y:=p.getD k ex0) (by omega) (j6 k) hi hj
  have e2:=aZ9 (j':=40000-3000*(k+1)) (by unfold za;exact jh) b' hi hj
  rw[show 3000*k+3000+(40000-3000*(k+1))=40000 by omega,e1,afi h k hi hj]at e2
  rw[e2,Int.mul_comm (Zi n _ k i j)]
end Go.Ab
namespace Go.Ab
open Go Go.Proofs
/-! ### Parts of a matrix,and the characteristic polynomial-/
def zw(set:Nat):Nat→List Nat
 |0=>[]
 |i+1=>if set/2^i % 2=1 then zw set i++[i]else zw set i
theorem adR{set:Nat}:∀{n:Nat},∀x∈zw set n,x<n
 |0,x,h=>by cases h
 |n+1,x,h=>by
  rw[zw]at h
  split at h
  ·rcases List.mem_append.1 h with h|h
   ·have:=adR x h;omega
   ·rw[List.mem_singleton.1 h];omega
  ·have:=adR x h;omega
theorem yF{set:Nat}:∀n:Nat,(zw set n).length≤n
 |0=>Nat.le_refl _
 |n+1=>by
  have:=yF (set:=set) n
  rw[zw];split
  ·rw[List.length_append,List.length_singleton];omega
  ·omega
def aa8(l:List Nat):List Int:=l.map fun(n:Nat)=>(n:Int)
def Xr(n:Nat)(l:List ExV)(set:Nat):List ExV:=gl (zw set n).length (fun i j=>l.getD ((zw set n).getD i 0*n+(zw set n).getD j 0) ex0) ((zw set n).length*(zw set n).length)
theorem afo{l:List Nat}{i:Nat}(h:i<l.length):(aa8 l).getD i 0=(l.getD i 0:Nat):=by
 unfold aa8
 rw[List.getD_eq_getElem?_getD,List.getElem?_map,List.getD_eq_getElem?_getD,List.getElem?_eq_getElem h];rfl
theorem jJ{set n i:Nat}(h:i<(zw set n).length):(zw set n).getD i 0<n:=by
 rw[List.getD_eq_getElem?_getD,List.getElem?_eq_getElem h];exact adR _ (List.getElem_mem h)
theorem aDH(n:Nat)(l:List ExV)(S:List Nat)(i j:Nat)(hn:n≤4)(hS:∀i,i<S.length→S.getD i 0<n)(hSl:S.length≤4)(hi:i<S.length)(hj:j<S.length)(hl:l.length=n*n):
  Con Tryz.prog 255 false [.v (.int .i64 i),.v (.int .i64 j),.fp [.v (.int .i64 n),.sl l.length (ql ExV.cs l)] 0,.fp [.sl S.length (qc (aa8 S))] 0] [] (isA (.ag [.v (.bool (l.getD (S.getD i 0*n+S.getD j 0) ex0).s),.sl (lim (l.getD (S.getD i 0*n+S.getD j 0) ex0).m).length (qc (lim (l.getD (S.getD i 0*n+S.getD j 0) ex0).m)),.v (.int .i64 (l.getD (S.getD i 0*n+S.getD j 0) ex0).e)])):=by
 refine Con.frzA ?_
 have h1:=hS i hi
 have h2:=hS j hj
 have hx:=qN h1 h2
 have hq:=yi hn
 have c1:=yz n l (S.getD i 0) (S.getD j 0) (by omega) (by omega) (by omega) (by omega) (by omega)
 have g1:=afo hi
 have g2:=afo hj
 have hnl:(aa8 S).length=S.length:=List.length_map _
 generalize l.getD (S.getD i 0*n+S.getD j 0) ex0=x at*
 generalize S.getD i 0=a at*
 generalize S.getD j 0=b at*
 refine Con.of_w (rs:=[.cell 6 118]) Tryz.func255 rfl Tryz.ntmps255 rfl ?_
 simp(disch:=omega)only[go_sem]
 refine qq rfl [⟨0,[],[]⟩,⟨1,[0],[]⟩,⟨2,[0,1],[]⟩,⟨3,[0],[]⟩,⟨4,[0],[]⟩,⟨5,[0,1,4],[]⟩,⟨6,[0,1,4,5],[]⟩,⟨7,[0,1,4],[]⟩,⟨8,[0,1,4],[]⟩,⟨9,[],[]⟩,⟨10,[],[]⟩] (by kernel_rfl) ?_
 simp(disch:=omega)only[go_sem,g1,g2]
 refine⟨by omega,by omega,by omega,by omega,?_⟩
 refine qa (c1) ?_
 simp(disch:=omega)only[go_sem]
 exact qk
theorem afn{l:List Nat}:(aa8 l).length=l.length:=List.length_map _
theorem aah{l:List Nat}:List.take l.length (aa8 l)=aa8 l:=List.take_of_length_le (by rw[afn];exact Nat.le_refl _)
theorem apJ{l:List Nat}{x:Nat}:aa8 (l++[x])=aa8 l++[(x:Int)]:=by unfold aa8;rw[List.map_append];rfl
set_option maxRecDepth 100000 in
theorem aMB(n:Nat)(l:List ExV)(set:Nat)(hn:n≤4)(hl:l.length=n*n)(hset:set<16):Con Tryz.prog 202 false [.ag [.v (.int .i64 (n)),.sl (l).length (ql ExV.cs (l))],.v (.int .i64 set)] [] (isA (.ag [.v (.int .i64 ((zw set n).length)),.sl (Xr n l set).length (ql ExV.cs (Xr n l set))])):=by
 refine Con.frzA ?_
 have hm:=yF (set:=set) n
 have c:=zY (zw set n).length 255 [.fp [.v (.int .i64 n),.sl l.length (ql ExV.cs l)] 0,.fp [.sl (zw set n).length (qc (aa8 (zw set n)))] 0] (fun i j=>l.getD ((zw set n).getD i 0*n+(zw set n).getD j 0) ex0) (by omega)
  (fun i j hi hj=>aDH n l (zw set n) i j hn (fun i hi=>jJ hi) (by omega) hi hj hl) (by simp(disch:=omega)only[go_sem]) (fun h=>rfl) (fun h=>rfl) (fun ks=>by simp(disch:=omega)only[go_sem]) (fun ρ=>rfl)
 change Con _ _ _ _ _ (isA (.ag [.v (.int .i64 ((zw set n).length)),.sl (Xr n l set).length (ql ExV.cs (Xr n l set))]))at c
 refine Con.of_aw Tryz.func202 rfl Tryz.ntmps202 (by simp) (by simp) (by simp)
  (AW.seqLe (E:=[(1,.v (.int .i64 set)),(2,.fp [.v (.int .i64 n),.sl l.length (ql ExV.cs l)] 0),(4,.pt 4 0)]) (H:=[(4,.own 0 [.v (.int .i64 0),.v (.slice none 0 0)])]) (W.sound ?_)
   (AW.seqLe (E:=[(1,.v (.int .i64 set)),(2,.fp [.v (.int .i64 n),.sl l.length (ql ExV.cs l)] 0),(4,.pt 4 0),(5,.pt 5 0)]) (H:=[(4,.own 0 [.v (.int .i64 0),.v (.slice none 0 0)]),(5,.own 0 [.v (.slice none 0 0)])]) (W.sound ?_)
    (AW.seqLe (E:=[(2,.fp [.v (.int .i64 n),.sl l.length (ql ExV.cs l)] 0),(4,.pt 4 0),(5,.fp [.sl (zw set n).length (qc (aa8 (zw set n)))] 0)]) (H:=[(4,.own 0 [.v (.int .i64 0),.v (.slice none 0 0)])]) (W.sound ?_) (W.sound ?_))))
 ·show @W Tryz.prog 26 ⟨_⟩ ⟨_⟩ _ _
  simp(disch:=omega)only[go_sem]
  exact(Le.frz 40000000 (z:=0) (ks:=[.v (.int .i64 n),.sl l.length (ql ExV.cs l)]) (by simp(disch:=omega)only[go_sem]) rfl (by simp(disch:=omega)only[go_sem])).trans (Le.lst [(4,60000000)] _ _ rfl (by simp(disch:=omega)only[go_sem]) (by simp(disch:=omega)only[go_sem]))
 ·show @W Tryz.prog 26 ⟨_⟩ ⟨_⟩ _ _
  simp(disch:=omega)only[go_sem]
  exact Le.lst [(5,70000000)] _ _ rfl (by simp(disch:=omega)only[go_sem]) (by simp(disch:=omega)only[go_sem])
 ·show @W Tryz.prog 26 ⟨_⟩ ⟨_⟩ _ _
  simp(disch:=omega)only[go_sem]
  refine qh (fun i:Nat=>[(1,.v (.int .i64 set)),(2,.fp [.v (.int .i64 n),.sl l.length (ql ExV.cs l)] 0),(4,.pt 4 0),(5,.pt 5 0),(8,.v (.int .i64 n)),(9,.v (.int .i64 i))])
   (fun i=>[(4,.own 0 [.v (.int .i64 0),.v (.slice none 0 0)]),(5,.own 0 [.rf 6 0 (zw set i).length]),(6,.own 1 (qc (aa8 (zw set i))))]) (fun i=>i≤n) (fun i=>n-i) 0 (by omega)
   ((Le.ghostC 5 0 6 1 (zo:=0) (cs:=[.v (.slice none 0 0)]) (by simp(disch:=omega)only[go_sem]) rfl (by simp(disch:=omega)only[go_sem])).trans (Le.lst [] _ _ rfl (by simp(disch:=omega)only[go_sem]) (by simp(disch:=omega)only[go_sem,show zw set 0=[] from rfl,show aa8 []=[] from rfl,List.set_cons_zero,List.length_nil,zS]))) ?_
  intro i hi
  simp(disch:=omega)only[go_sem]
  have hs:zw set (i+1)=if set/2^i % 2=1 then zw set i++[i]else zw set i:=rfl
  have hil:=yF (set:=set) i
  refine qe (fun c1=>?_) (fun c1=>?_)
  ·have efd:(set:Int).fdiv (2^min i 64)=((set/2^i:Nat):Int):=by
    rw[Nat.min_eq_left (by omega),Int.fdiv_eq_ediv_of_nonneg _ (Int.le_of_lt (Int.pow_pos (by omega))),Int.natCast_ediv,Int.natCast_pow];rfl
   have hle:set/2^i≤set:=Nat.div_le_self _ _
   generalize set/2^i=q at*
   simp(disch:=omega)only[go_sem,c1]
   refine⟨by omega,?_⟩
   rw[efd]
   by_cases hb:q % 2=1
   ·rw[if_pos hb]at hs
    simp(disch:=omega)only[go_sem,decide_eq_true (show(q:Int) % 2=1 by omega)]
    rw[aah,←apJ]
    have hl2:(zw set i++[i]).length=(zw set i).length+1:=by simp
    exact⟨⟨by rw[afn];exact Nat.le_refl _,by omega⟩,qb (i+1) [(6,220000000)] (by show i+1≤n;omega) (by show n-(i+1)<n-i;omega) rfl (by simp(disch:=omega)only[go_sem];try omega) (by simp(disch:=omega)only[go_sem,hs,hl2])⟩
   ·rw[if_neg hb]at hs
    simp(disch:=omega)only[go_sem,decide_eq_false (show ¬(q:Int) % 2=1 by omega)]
    exact qb (i+1) [] (by show i+1≤n;omega) (by show n-(i+1)<n-i;omega) rfl (by simp(disch:=omega)only[go_sem];try omega) (by simp(disch:=omega)only[go_sem,hs])
  ·obtain rfl:i=n:=by omega
   simp(disch:=omega)only[go_sem,c1]
   exact((Le.frz 6 (z:=1) (ks:=qc (aa8 (zw set i))) (by simp(disch:=omega)only[go_sem]) rfl (by simp(disch:=omega)only[go_sem])).trans (Le.frz 5 (z:=0) (ks:=[.sl (zw set i).length (qc (aa8 (zw set i)))]) (by simp(disch:=omega)only[go_sem,aah]) rfl (by simp(disch:=omega)only[go_sem]))).trans (Le.lst [] _ _ rfl (by simp(disch:=omega)only[go_sem]) (by simp(disch:=omega)only[go_sem]))
 show @W Tryz.prog 26 ⟨_⟩ ⟨fun x σ=>@q7 _ _ _ ⟨_⟩ _ ⟨_⟩ x σ⟩ _ _
 simp(disch:=omega)only[go_sem]
 refine qa (c) ?_
 simp(disch:=omega)only[go_sem]
 exact qk
end Go.Ab
namespace Go.Ab
open Go
section
variable {σ:St}
theorem aK1{n k:Nat}:(ql ExV.cs (List.replicate k ex0)++zC (n+1) z3).set (k*3+1) (.sl 0 [])=ql ExV.cs (List.replicate (k+1) ex0)++zC n z3:=by
 have h1:(ql ExV.cs (List.replicate k ex0)).length=k*3:=by rw[Qe,List.length_replicate]
 have h2:zC (n+1) z3=z3++zC n z3:=by unfold zC;rw[List.replicate_succ,List.flatten_cons]
 have h3:ql ExV.cs (List.replicate (k+1) ex0)=ql ExV.cs (List.replicate k ex0)++ex0.cs:=by
  rw[List.replicate_succ',←y8,zi,j0,List.append_nil]
 have h4:ex0.cs=[.v (.bool false),.sl 0 [],.v (.int .i64 0)]:=by
  show [AV.v (.bool false),.sl (lim 0).length (qc (lim 0)),.v (.int .i64 0)]=_
  rw[qm];rfl
 rw[h2,h3,h4,List.set_append_right _ _ (by omega),h1,Nat.add_sub_cancel_left,List.append_assoc]
 rfl
theorem Le.nils(m:Nat){z n:Nat}(hm:σ.hp m=.own z (zC n z3)):Le σ ⟨σ.env,upd σ.hp m (.own z (ql ExV.cs (List.replicate n ex0)))⟩:=by
 have key:∀k j,k+j=n→Le σ ⟨σ.env,upd σ.hp m (.own z (ql ExV.cs (List.replicate k ex0)++zC j z3))⟩:=by
  intro k
  induction k with
  |zero=>
   intro j hj
   have e:upd σ.hp m (.own z (ql ExV.cs (List.replicate 0 ex0)++zC j z3))=σ.hp:=by
    funext x
    by_cases h:x=m
    ·subst h;rw[qt,hm]
     obtain rfl:j=n:=by omega
     rfl
    ·exact qC h
   rw[e];exact Le.refl σ
  |succ k ih=>
   intro j hj
   have h1:=ih (j+1) (by omega)
   refine h1.trans ?_
   have h2:=Le.nilC (σ:=⟨σ.env,upd σ.hp m (.own z (ql ExV.cs (List.replicate k ex0)++zC (j+1) z3))⟩) m (k*3+1) (zo:=z) (cs:=ql ExV.cs (List.replicate k ex0)++zC (j+1) z3) (by show upd _ _ _ m=_;rw[qt]) (by
    have h1:(ql ExV.cs (List.replicate k ex0)).length=k*3:=by rw[Qe,List.length_replicate]
    have h2:zC (j+1) z3=z3++zC j z3:=by unfold zC;rw[List.replicate_succ,List.flatten_cons]
    rw[List.getElem?_append_right (by omega),h1,Nat.add_sub_cancel_left,h2];rfl)
   rw[aK1]at h2
   have e:∀a b:Ob,upd (upd σ.hp m a) m b=upd σ.hp m b:=fun a b=>by
    funext x
    by_cases h:x=m
    ·subst h;rw[qt,qt]
    ·rw[qC h,qC h,qC h]
   dsimp only at h2
   rw[e]at h2
   exact h2
 have:=key n 0 (by omega)
 rw[aEr,List.append_nil]at this
 exact this
end
theorem aDm{l:List ExV}{i:Nat}(hi:i<l.length):cut (ql ExV.cs l) (i*3) 3=[.v (.bool (l.getD i ex0).s),.sl (lim (l.getD i ex0).m).length (qc (lim (l.getD i ex0).m)),.v (.int .i64 (l.getD i ex0).e)]:=QM (l:=l) aax hi ex0
theorem aqw{l:List ExV}{i sz:Nat}(hi:i<l.length):rdA false sz (ql ExV.cs l) (i*3+1)=.sl (lim (l.getD i ex0).m).length (qc (lim (l.getD i ex0).m)):=by
 have h:=aDm hi
 have h2:(cut (ql ExV.cs l) (i*3) 3)[1]? =some (.sl (lim (l.getD i ex0).m).length (qc (lim (l.getD i ex0).m))):=by rw[h];rfl
 unfold cut at h2
 rw[List.getElem?_take_of_lt (by omega),List.getElem?_drop]at h2
 show(ql ExV.cs l).getD (i*3+1) _=_
 rw[List.getD_eq_getElem?_getD,h2];rfl
end Go.Ab
namespace Go.Ab
open Go Go.Proofs
/-! ### The characteristic polynomial-/
def yb(n:Nat)(l:List ExV):Nat→Nat→ExV
 |0,_=>ex0
 |s+1,k=>if n-(zw s n).length=k then(yb n l s k).plus ((jH (zw s n).length (Xr n l s)).sgn (zw s n).length)else yb n l s k
def yo(n:Nat)(l:List ExV)(s:Nat):List ExV:=(List.range (n+1)).map (yb n l s)
theorem z8{n:Nat}{l:List ExV}{s:Nat}:(yo n l s).length=n+1:=by simp[yo]
theorem YB{n:Nat}{l:List ExV}{s k:Nat}(h:k<n+1):(yo n l s).getD k ex0=yb n l s k:=by
 unfold yo
 rw[List.getD_eq_getElem?_getD,List.getElem?_map,List.getElem?_range h];rfl
theorem apr{n:Nat}{l:List ExV}:yo n l 0=List.replicate (n+1) ex0:=by
 unfold yo
 rw[show(yb n l 0)=fun _=>ex0 from rfl]
 apply List.ext_getElem (by simp)
 intro i h1 h2
 simp
theorem apt{n:Nat}{l:List ExV}{s:Nat}:(yo n l s).set (n-(zw s n).length) ((yb n l s (n-(zw s n).length)).plus ((jH (zw s n).length (Xr n l s)).sgn (zw s n).length))=yo n l (s+1):=by
 apply List.ext_getElem (by rw[List.length_set,z8,z8])
 intro i h1 h2
 simp only[yo,List.getElem_set,List.getElem_map,List.getElem_range,yb]
 by_cases h:n-(zw s n).length=i
 ·rw[if_pos h,if_pos h,h]
 ·rw[if_neg h,if_neg h]
theorem Zq{n:Nat}{l:List ExV}{s:Nat}:(Xr n l s).length=(zw s n).length*(zw s n).length:=jh
theorem adT{n:Nat}{l:List ExV}{s:Nat}{lo hi:Int}(hl:l.length=n*n)(h:gbd lo hi l):gbd lo hi (Xr n l s):=
 aqd fun i j hi hj=>qK h (by rw[hl];exact qN (jJ hi) (jJ hj))
theorem Xg{n:Nat}{l:List ExV}(hn:n≤4)(hl:l.length=n*n)(h:gbd (-10000) 10000 l):∀(s k:Nat),(yb n l s k).bd (-40000) (40020+s)
 |0,k=>aay (by omega) (by omega)
 |s+1,k=>by
  have h1:=Xg hn hl h s k
  have hm:=yF (set:=s) n
  have h2:=ExV.sgn_bd (k:=(zw s n).length) ((QX (zw s n).length (l:=Xr n l s) (by omega) Zq (adT hl h)).mono (show(-40000:Int)≤_ by omega) (show _≤(40020+s:Int) by omega))
  rw[yb]
  split
  ·exact(ExV.plus_bd h1 h2).mono (by omega) (by omega)
  ·exact h1.mono (by omega) (by omega)
set_option maxRecDepth 100000 in
theorem aDI(n:Nat)(l:List ExV)(hn:1≤n∧n≤4)(hl:l.length=n*n)(h:gbd (-10000) 10000 l):Con Tryz.prog 123 false [.ag [.v (.int .i64 (n)),.sl (l).length (ql ExV.cs (l))]] [] (isA (.sl (n+1) (ql ExV.cs (yo n l (2^n))))):=by
 refine Con.frzA ?_
 have hz:((n:Int)+1).toNat=n+1:=by omega
 have h16:2^n≤2^4:=Nat.pow_le_pow_right (by omega) hn.2
 have hsh:IntKind.i64.wrap (1*2^min n 64)=((2^n:Nat):Int):=by
  rcases(show n=1∨n=2∨n=3∨n=4 by omega)with rfl|rfl|rfl|rfl<;>rfl
 generalize h2n:2^n=N at*
 refine Con.of_aw Tryz.func123 rfl Tryz.ntmps123 (by simp) (by simp) (by simp) (W.sound ?_)
 show @W Tryz.prog 40 ⟨_⟩ ⟨fun x σ=>@q7 _ _ _ ⟨_⟩ _ ⟨_⟩ x σ⟩ _ _
 simp(disch:=omega)only[go_sem]
 rw[hz,hsh]
 refine⟨by omega,by omega,?_⟩
 refine qh (fun s:Nat=>[(1,.pt 1 0),(3,.rf 3 0 (n+1)),(13,.v (.int .i64 N)),(14,.v (.int .i64 s))])
  (fun s=>[(1,.own 0 [.v (.int .i64 n),.sl l.length (ql ExV.cs l)]),(3,.own 3 (ql ExV.cs (yo n l s)))]) (fun s=>s≤N) (fun s=>N-s) 0 (by omega)
  ((Le.nils 120000000 (z:=3) (n:=n+1) (by simp(disch:=omega)only[go_sem,show(z3:List AV)=[.v (.bool false),.v (.slice none 0 0),.v (.int .i64 0)] from rfl])).trans (Le.lst [(1,30000000),(3,120000000)] _ _ rfl (by simp(disch:=omega)only[go_sem]) (by simp(disch:=omega)only[go_sem,apr]))) ?_
 intro s hs
 simp(disch:=omega)only[go_sem]
 refine qe (fun c1=>?_) (fun c1=>?_)
 ·have hm:=yF (set:=s) n
  have cs:=aMB n l s hn.2 hl (by omega)
  have cd:=ars (zw s n).length (Xr n l s) (by omega) Zq (adT hl h)
  have bd1:=Xg hn.2 hl h s (n-(zw s n).length)
  have bd2:=QX (zw s n).length (l:=Xr n l s) (by omega) Zq (adT hl h)
  have hg:=YB (n:=n) (l:=l) (s:=s) (k:=n-(zw s n).length) (by omega)
  have hcut:=zF (l:=yo n l s) (i:=n-(zw s n).length) (by rw[z8];omega)
  have hset:=fun y=>aMl (L:=yo n l s) (i:=n-(zw s n).length) (x:=y) (by rw[z8];omega)
  have hss:=apt (n:=n) (l:=l) (s:=s)
  have hpl:=z8 (n:=n) (l:=l) (s:=s)
  rw[hg]at hcut
  have ek:(n:Int)-(zw s n).length=((n-(zw s n).length:Nat):Int):=by omega
  generalize yb n l s (n-(zw s n).length)=x at*
  generalize hkk:n-(zw s n).length=kk at*
  generalize (zw s n).length=m at*
  generalize Xr n l s=G at*
  generalize jH m G=y at*
  have csg:=J7 y m (by omega)
  have bd3:=ExV.sgn_bd (k:=m) bd2
  have cp:=zv x (y.sgn m) (bd1.mono (by omega) (by omega)) (bd3.mono (by omega) (by omega))
  generalize x.plus (y.sgn m)=v at*
  have hv:=hset v
  generalize yo n l s=P0 at*
  simp(disch:=omega)only[go_sem,c1]
  refine qa (cs) ?_
  simp(disch:=omega)only[go_sem]
  rw[ek]
  refine qq rfl [⟨0,[],[]⟩,⟨1,[],[]⟩,⟨2,[],[]⟩,⟨3,[],[]⟩,⟨4,[],[]⟩,⟨5,[],[]⟩,⟨6,[5],[]⟩,⟨8,[5,6],[]⟩,⟨9,[5,6],[]⟩,⟨7,[5,9],[]⟩,⟨10,[5],[]⟩,⟨11,[],[]⟩,⟨12,[],[]⟩,⟨13,[],[]⟩] (by kernel_rfl) ?_
  simp(disch:=omega)only[go_sem,hcut]
  refine⟨by omega,by omega,?_⟩
  refine qa (cd) ?_
  simp(disch:=omega)only[go_sem]
  refine qa (csg) ?_
  simp(disch:=omega)only[go_sem]
  refine qa (cp) ?_
  simp(disch:=omega)only[go_sem]
  rw[hv,hss]
  exact⟨by omega,by omega,qb (s+1) [] (by show s+1≤N;omega) (by show N-(s+1)<N-s;omega) rfl (by simp(disch:=omega)only[go_sem];try omega) (by simp(disch:=omega)only[go_sem])⟩
 ·obtain rfl:s=N:=by omega
  simp(disch:=omega)only[go_sem,c1]
  have hpl:=z8 (n:=n) (l:=l) (s:=s)
  generalize yo n l s=P0 at*
  refine qg [(0,3)] [.own 3 (ql ExV.cs P0)] [] [.rf 0 0 (n+1)] rfl (by simp(disch:=omega)only[go_sem]) (by simp(disch:=omega)only[go_sem]) (by simp) (by simp) ?_
  show qF _ 6 _=_
  simp(disch:=omega)only[go_sem,q6,zz hpl]
theorem aaV(n:Nat)(L:List ExV)(h:matV n L):Con Tryz.prog 44 false [.ag [.v (.int .i64 (n)),.sl (L).length (ql ExV.cs (L))]] [] (isA (if(yo n L (2^n)).all ExV.fit=true then .tu [.sl (n+1) (ql ExV.cs ((yo n L (2^n)).map ExV.can)),.v (.bool true)]else .tu [.sl 0 [],.v (.bool false)])):=by
 refine Con.frzA ?_
 have hb:gbd (-10000) 10000 L:=qT h.bd (by omega) (by omega)
 have co:=aDI n L ⟨h.n1,h.n4⟩ h.len hb
 have hl:(yo n L (2^n)).length=n+1:=z8
 have h16:2^n≤2^4:=Nat.pow_le_pow_right (by omega) h.n4
 have cm:=aaN (yo n L (2^n)) (by have:=h.n4;omega) (fun x hx=>by
  obtain⟨k,hk,rfl⟩:=List.mem_map.1 hx
  exact(Xg h.n4 h.len hb _ k).mono (by omega) (by omega))
 generalize yo n L (2^n)=z at*
 rw[hl]at cm
 cases hf:z.all ExV.fit
 ·rw[hf,if_neg (by simp)]at cm
  rw[if_neg (by simp)]
  refine Con.of_w (rs:=[.tmp 2,.tmp 3]) Tryz.func44 rfl Tryz.ntmps44 rfl ?_
  simp(disch:=omega)only[go_sem]
  refine qn (jS n L h) ?_
  simp(disch:=omega)only[go_sem]
  refine qa (zN n L (by have:=h.l16;omega)) ?_
  simp(disch:=omega)only[go_sem]
  refine qa (co) ?_
  simp(disch:=omega)only[go_sem]
  refine qa (cm) ?_
  simp(disch:=omega)only[go_sem]
  exact qk
 ·rw[hf,if_pos rfl]at cm
  rw[if_pos rfl]
  refine Con.of_w (rs:=[.tmp 2,.tmp 3]) Tryz.func44 rfl Tryz.ntmps44 rfl ?_
  simp(disch:=omega)only[go_sem]
  refine qn (jS n L h) ?_
  simp(disch:=omega)only[go_sem]
  refine qa (zN n L (by have:=h.l16;omega)) ?_
  simp(disch:=omega)only[go_sem]
  refine qa (co) ?_
  simp(disch:=omega)only[go_sem]
  refine qa (cm) ?_
  simp(disch:=omega)only[go_sem]
  exact qk
theorem JH(k:Int)(M:List DyV)(h1:M.length≤16)(h2:∀d∈M,d.xs.length≤200)(h:afp k M=false):Con Tryz.prog 44 false [.ag [.v (.int .i64 k),.sl M.length (ql DyV.cs M)]] [] (isA (.tu [.sl 0 [],.v (.bool false)])):=by
 refine Con.frzA ?_
 have c:=aku k M h1 h2
 rw[h]at c
 refine Con.of_w (rs:=[.tmp 2,.tmp 3]) Tryz.func44 rfl Tryz.ntmps44 rfl ?_
 simp(disch:=omega)only[go_sem]
 refine qn (c) ?_
 simp(disch:=omega)only[go_sem]
 exact qk
def trE(n:Nat)(l:List ExV)(k:Nat):ExV:=(List.range k).foldl (fun s i=>s.plus (l.getD (i*n+i) ex0)) ex0
theorem ae7{n:Nat}{l:List ExV}{k:Nat}:trE n l (k+1)=(trE n l k).plus (l.getD (k*n+k) ex0):=by
 unfold trE;rw[List.range_succ,List.foldl_append,List.foldl_cons,List.foldl_nil]
theorem aEy{n:Nat}{l:List ExV}{lo hi:Int}(hl:l.length=n*n)(h:gbd lo hi l)(h0:lo≤0∧0≤hi)(k:Nat)(hk:k≤n):(trE n l k).bd lo (hi+k):=
 yP _ h0 k fun t ht=>qK h (by rw[hl];exact qN (by omega) (by omega))
theorem aqO(n:Nat)(l:List ExV)(hn:n≤4)(hl:l.length=n*n)(hb:gbd (-390000) 390000 l):Con Tryz.prog 124 false [.ag [.v (.int .i64 (n)),.sl (l).length (ql ExV.cs (l))]] [] (isA (.ag [.v (.bool (trE n l n).s),.sl (lim (trE n l n).m).length (qc (lim (trE n l n).m)),.v (.int .i64 (trE n l n).e)])):=by
 refine Con.frzA ?_
 have hq:=yi hn
 refine Con.of_w (rs:=[.cell 2 118]) Tryz.func124 rfl Tryz.ntmps124 rfl ?_
 simp(disch:=omega)only[go_sem]
 refine qh (fun k:Nat=>[(1,.pt 1 0),(2,.pt 2 0),(3,.pt 3 0),(6,.v (.int .i64 n)),(7,.v (.int .i64 k))])
  (fun k=>[(1,.own 0 [.v (.int .i64 n),.sl l.length (ql ExV.cs l)]),(2,.own 0 [.v (.bool false),.v (.slice none 0 0),.v (.int .i64 0)]),(3,.own 0 [.v (.bool (trE n l k).s),.sl (lim (trE n l k).m).length (qc (lim (trE n l k).m)),.v (.int .i64 (trE n l k).e)])])
  (fun k=>k≤n) (fun k=>n-k) 0 (by omega)
  ((Le.nilC 50000000 1 (zo:=0) (cs:=[.v (.bool false),.v (.slice none 0 0),.v (.int .i64 0)]) (by simp(disch:=omega)only[go_sem]) rfl).trans (Le.lst [(1,30000000),(2,40000000),(3,50000000)] _ _ rfl (by simp(disch:=omega)only[go_sem]) (by simp(disch:=omega)only[go_sem,List.set_cons_succ,List.set_cons_zero,show trE n l 0=ex0 from rfl,ex0,qm]))) ?_
 intro k hk
 have hD:=aEy hl hb (by omega) k hk
 have hs:=ae7 (n:=n) (l:=l) (k:=k)
 generalize hDD:trE n l k=D at*
 simp(disch:=omega)only[go_sem]
 refine qe (fun h1=>?_) (fun h1=>?_)
 ·have hx:=qN (show k<n by omega) (show k<n by omega)
  have c1:=yz n l k k (by omega) (by omega) (by omega) (by omega) (by omega)
  have b1:=qK hb (show k*n+k<l.length by omega)
  generalize l.getD (k*n+k) ex0=x at*
  simp(disch:=omega)only[go_sem,h1]
  refine qq rfl [⟨0,[],[]⟩,⟨1,[0],[]⟩,⟨2,[0,1],[]⟩,⟨3,[0,1],[]⟩,⟨4,[0],[]⟩,⟨5,[],[]⟩,⟨6,[],[]⟩] (by kernel_rfl) ?_
  simp(disch:=omega)only[go_sem]
  refine qa (c1) ?_
  simp(disch:=omega)only[go_sem]
  refine qa (zv D x (hD.mono (by omega) (by omega)) (b1.mono (by omega) (by omega))) ?_
  simp(disch:=omega)only[go_sem]
  exact qb (k+1) [] (by show k+1≤_;omega) (by show n-(k+1)<n-k;omega) rfl (by simp(disch:=omega)only[go_sem];try omega) (by simp(disch:=omega)only[go_sem,hs])
 ·simp(disch:=omega)only[go_sem,h1]
  obtain rfl:n=k:=by omega
  rw[hDD]
  exact qk
theorem Xe(n:Nat)(L:List ExV)(h:matV n L):Con Tryz.prog 45 false [.ag [.v (.int .i64 (n)),.sl (L).length (ql ExV.cs (L))]] [] (isA (.tu [.ag [.v (.bool ((trE n L n).tel).s),.sl (lim ((trE n L n).tel).m).length (qc (lim ((trE n L n).tel).m)),.v (.int .i64 ((trE n L n).tel).e)],.v (.bool (trE n L n).fit)])):=by
 refine Con.frzA ?_
 have cn:=aqO n L h.n4 h.len (qT h.bd (by omega) (by omega))
 have cd:=aro (trE n L n) ((aEy h.len h.bd (by omega) n (Nat.le_refl n)).mono (by omega) (by have:=h.n4;omega))
 generalize trE n L n=y at*
 refine Con.of_w (rs:=[.cell 2 40,.tmp 3]) Tryz.func45 rfl Tryz.ntmps45 rfl ?_
 simp(disch:=omega)only[go_sem]
 refine qn (jS n L h) ?_
 simp(disch:=omega)only[go_sem]
 refine qa (zN n L (by have:=h.l16;omega)) ?_
 simp(disch:=omega)only[go_sem]
 refine qa (cn) ?_
 simp(disch:=omega)only[go_sem]
 refine qa (cd) ?_
 simp(disch:=omega)only[go_sem]
 exact qk
end Go.Ab
namespace Go.Ab
open Go Go.Proofs
section
variable (l:List UInt8)(hl:l.length≤9223372036854775807)(i h:Int)(hi:0≤i∧i≤l.length)
include hl hi
theorem JF:Con Tryz.prog 114 false [.pt 10000000 0] [.own 0 [.sl l.length (qj l),.v (.int .i64 i),.v (.int .i64 h)]] (Xt l bah):=by
 refine Con.cur l i h (Q:=fun r hs=>(∀ob∈hs,ob.men fun _=>False)∧bah (qF (rhp hs []) 6 r)) ?_ fun _ _ h=>h
 refine Con.of_aw Tryz.func114 rfl Tryz.ntmps114 (by simp) (by simp) (by simp) (W.sound ?_)
 show @W Tryz.prog 47 ⟨_⟩ ⟨fun x σ=>@q7 _ _ _ ⟨_⟩ _ ⟨_⟩ x σ⟩ _ _
 simp(disch:=omega)only[go_sem]
 refine qw (aMD l hl i h hi) ?_
 rintro r i1 h1 hi1 ⟨n,hn,rfl⟩
 simp(disch:=omega)only[go_sem]
 refine yA false [10000000] (aeD l hl i1 h1 hi1 n hn) (by simp(disch:=omega)only[go_sem]) (by simp(disch:=omega)only[go_sem]) rfl (qO (z:=0) (cs:=[.sl l.length (qj l),.v (.int .i64 i1),.v (.int .i64 h1)]) (by simp(disch:=omega)only[go_sem]) (by simp(disch:=omega)only[go_sem])) (by intro n hn;exact⟨_,List.mem_cons_self ..,by rw[List.mem_singleton.1 hn];rfl⟩) ?_
 rintro r hs bs ⟨⟨k,M,o,m,g1,g0,g2,g3,rfl,rfl⟩,i2,h2,hi2,rfl⟩-
 refine⟨by simp[qQ];simp(disch:=omega)only[go_sem],?_⟩
 simp(disch:=omega)only[go_sem]
 have hq:=yi hn.2
 have hlen:((M.drop o).take m).length=m:=by rw[List.length_take,List.length_drop];omega
 have hc:cut (ql DyV.cs M) (o*3) (m*3)=ql DyV.cs ((M.drop o).take m):=adX Q8 o m
 have cM:=aeO k ((M.drop o).take m) (by omega) (fun d hd=>g3 d (List.mem_of_mem_drop (List.mem_of_mem_take hd)))
 rw[hlen]at cM
 have hm:∀(M:List DyV),∀ob∈[Ob.own 3 (ql DyV.cs M)],ob.men fun _=>False:=fun M ob ho=>by rw[List.mem_singleton.1 ho];exact of_eq_true aqD
 refine qn cM ?_ (by simp(disch:=omega)only[go_sem,hc])
 simp(disch:=omega)only[go_sem]
 cases hB:afp k ((M.drop o).take m)
 ·simp(disch:=omega)only[go_sem]
  refine qg [(0,120000000)] [.own 3 (ql DyV.cs M)] [.own 0 [.sl l.length (qj l),.v (.int .i64 i2),.v (.int .i64 h2)]] [.ag [.v (.int .i64 k),.rf 0 (o*3) m]] rfl (by simp(disch:=omega)only[go_sem]) (by simp(disch:=omega)only[go_sem]) (by simp) (by simp) ⟨⟨hm M,YI g1 (by omega) g3⟩,_,_,hi2,rfl⟩
 obtain⟨n2,L,rfl,hML,hL⟩:=aFI hB
 have hm2:m=n2*n2:=by rw[←hlen,hML,List.length_map,hL.len]
 have hnn:n2=n∧o=0:=by
  have:=hL.n1
  have:=hL.n4
  obtain⟨hn1,hn4⟩:=hn
  rcases(show n=1∨n=2∨n=3∨n=4 by omega)with rfl|rfl|rfl|rfl<;>rcases(show n2=1∨n2=2∨n2=3∨n2=4 by omega)with rfl|rfl|rfl|rfl<;>omega
 obtain⟨rfl,rfl⟩:=hnn
 subst hm2
 have hMM:M=L.map ExV.dyv:=by
  rw[←hML,List.drop_zero,List.take_of_length_le (by omega)]
 simp(disch:=omega)only[go_sem]
 by_cases h1n:(1:Int)<n2
 rotate_left
 ·simp(disch:=omega)only[go_sem,h1n]
  refine qg [(0,120000000)] [.own 3 (ql DyV.cs M)] [.own 0 [.sl l.length (qj l),.v (.int .i64 i2),.v (.int .i64 h2)]] [.ag [.v (.int .i64 n2),.rf 0 (0*3) (n2*n2)]] rfl (by simp(disch:=omega)only[go_sem]) (by simp(disch:=omega)only[go_sem]) (by simp) (by simp) ⟨⟨hm M,YI g1 (by omega) g3⟩,_,_,hi2,rfl⟩
 simp(disch:=omega)only[go_sem,h1n]
 refine qw (qX l hl i2 h2 hi2 2 (by omega)) ?_
 rintro r i3 h3 hi3 ⟨b,rfl⟩
 simp(disch:=omega)only[go_sem]
 cases b
 ·simp(disch:=omega)only[go_sem]
  refine qg [(0,120000000)] [.own 3 (ql DyV.cs M)] [.own 0 [.sl l.length (qj l),.v (.int .i64 i3),.v (.int .i64 h3)]] [.ag [.v (.int .i64 n2),.rf 0 (0*3) (n2*n2)]] rfl (by simp(disch:=omega)only[go_sem]) (by simp(disch:=omega)only[go_sem]) (by simp) (by simp) ⟨⟨hm M,YI g1 (by omega) g3⟩,_,_,hi3,rfl⟩
 simp(disch:=omega)only[go_sem]
 refine qh (fun x:Nat×List DyV=>[(0,.pt 10000000 0),(2,.pt 5 0),(3,.v (.int .i64 n2)),(4,.pt 4 0),(5,.v (.int .i64 x.1))])
  (fun x=>[(3,.own 3 (ql DyV.cs x.2)),(4,.own 0 [.v (.int .i64 n2),.rf 3 0 (n2*n2)]),(5,.own 0 [.v (.int .i64 0),.v (.slice none 0 0)]),(10000000,.own 0 [.sl l.length (qj l),.v (.int .i64 i3),.v (.int .i64 h3)])])
  (fun x=>x.1≤n2∧x.2.length=n2*n2∧(∀d∈x.2,d.xs.length≤200)∧∀t,t<n2→x.2.getD t dy0=(L.getD t ex0).dyv) (fun x=>n2-x.1) (0,M) ⟨by simp,g2,g3,fun t ht=>?_⟩
  (Le.lst [(3,120000000),(4,60000000),(5,40000000)] _ _ rfl (by simp(disch:=omega)only[go_sem]) (by simp(disch:=omega)only[go_sem])) ?_
 ·have:n2≤n2*n2:=Nat.le_mul_of_pos_left n2 (by omega)
  rw[hMM,List.getD_eq_getElem?_getD,List.getElem?_map,List.getD_eq_getElem?_getD,List.getElem?_eq_getElem (by rw[hL.len];omega)];rfl
 rintro⟨j,D⟩ ⟨hj,hD,hD2,hD3⟩
 dsimp only at hj hD hD2 hD3 ⊢
 simp(disch:=omega)only[go_sem]
 refine qe (fun c1=>?_) (fun c1=>?_)
 ·have hnn:n2≤n2*n2:=Nat.le_mul_of_pos_left n2 (by omega)
  have hcut:=aMv (l:=D) (i:=j) (by omega)
  rw[hD3 j (by omega)]at hcut
  have hok:(L.getD j ex0).ok=true:=hL.ok _ (by rw[List.getD_eq_getElem?_getD,List.getElem?_eq_getElem (by rw[hL.len];omega)];exact List.getElem_mem _)
  have hst:∀y:ExV,(lim y.m).length≤200→(∀d∈D.set ((n2-1)*n2+j) y.dyv,d.xs.length≤200)∧∀t,t<n2→(D.set ((n2-1)*n2+j) y.dyv).getD t dy0=(L.getD t ex0).dyv:=fun y hy=>⟨fun d hd=>by
   rcases List.mem_or_eq_of_mem_set hd with hd|rfl
   ·exact hD2 d hd
   ·exact hy,fun t ht=>by
   have:n2≤(n2-1)*n2:=Nat.le_mul_of_pos_left n2 (by omega)
   rw[List.getD_eq_getElem?_getD,List.getElem?_set_ne (by omega),←List.getD_eq_getElem?_getD]
   exact hD3 t ht⟩
  have hidx:(n2-1)*n2+j<n2*n2:=qN (by omega) (by omega)
  have eidx:((n2:Int)-1)*n2+j=(((n2-1)*n2+j:Nat):Int):=by rw[Int.natCast_add,Int.natCast_mul];congr 2;omega
  have hset:=fun y:ExV=>aMs (L:=D) (i:=(n2-1)*n2+j) (s:=y.s) (xs:=lim y.m) (e:=y.e) (by omega)
  have hsl:∀y:ExV,(D.set ((n2-1)*n2+j) y.dyv).length=n2*n2:=fun y=>by rw[List.length_set];exact hD
  generalize (n2-1)*n2+j=p at*
  generalize L.getD j ex0=x at*
  have bx:=ad3 hok
  have ca:=akh x x (bx.mono (by omega) (by omega)) (bx.mono (by omega) (by omega))
  have hl2:(lim (x.plus x).can.m).length≤200:=by
   have r:=jt hok
   have e:=Y1 (K:=3000) (s:=(x.plus x).s) (m:=(x.plus x).m) (e:=(x.plus x).e) (s':=x.s) (m':=x.m) (e':=x.e+1) (JV (by omega) (by omega)) (by omega) (by
    have h1:=j7 (K:=3000) (x:=x) (y:=x) (by omega) (by omega)
    have h2:dv 3000 x.s x.m (x.e+1)=x.val 3000*2:=by
     unfold ExV.val dv
     rw[show(x.e+1+((3000:Nat):Int)).toNat=(x.e+((3000:Nat):Int)).toNat+1 by omega,Int.pow_succ,Int.mul_assoc]
    have h1':dv 3000 (x.plus x).s (x.plus x).m (x.plus x).e=x.val 3000+x.val 3000:=h1
    omega)
   have:(x.plus x).can.m=oM x.m:=e.2.1
   rw[this]
   have:=yN (aB6 x.m)
   omega
  generalize (x.plus x).can=y at*
  dsimp only[ExV.dyv]at hcut
  simp(disch:=omega)only[go_sem,c1]
  refine qq rfl [⟨0,[],[]⟩,⟨1,[],[]⟩,⟨2,[1],[]⟩,⟨3,[1],[]⟩,⟨4,[1],[]⟩,⟨5,[1],[]⟩,⟨6,[1],[]⟩,⟨7,[1],[]⟩,⟨8,[1],[]⟩,⟨9,[1],[]⟩,⟨10,[1,9],[]⟩,⟨11,[1],[]⟩,⟨12,[1],[]⟩,⟨13,[1,9,12],[]⟩,⟨14,[1,9,12],[]⟩,⟨15,[1,9,12,14],[]⟩,⟨16,[1,9,12],[]⟩,⟨17,[1,9,12],[]⟩,⟨18,[1],[]⟩,⟨19,[],[]⟩,⟨20,[],[]⟩] (by kernel_rfl) ?_
  simp(disch:=omega)only[go_sem,hcut]
  refine⟨by omega,by omega,by omega,by omega,?_⟩
  refine qa (ca) ?_
  simp(disch:=omega)only[go_sem]
  simp(disch:=omega)only[go_sem,eidx]
  rw[hset y]
  exact⟨by omega,by omega,qb (j+1,D.set p y.dyv) [] ⟨by omega,hsl y,(hst y hl2).1,(hst y hl2).2⟩ (by show n2-(j+1)<n2-j;omega) rfl (by simp(disch:=omega)only[go_sem];try omega) (by simp(disch:=omega)only[go_sem];rfl)⟩
 ·simp(disch:=omega)only[go_sem,c1]
  refine qg [(0,3)] [.own 3 (ql DyV.cs D)] [.own 0 [.sl l.length (qj l),.v (.int .i64 i3),.v (.int .i64 h3)]] [.ag [.v (.int .i64 n2),.rf 0 (0*3) (n2*n2)]] rfl (by simp(disch:=omega)only[go_sem]) (by simp(disch:=omega)only[go_sem]) (by simp) (by simp) ⟨⟨hm D,YI (o:=0) (by omega) (by omega) hD2⟩,_,_,hi3,rfl⟩
end
end Go.Ab
namespace Go.Ab
open Go Go.Proofs
end Go.Ab
namespace Go.Ab
/-! ### The coefficients of the characteristic polynomial:sums of principal minors-/
def ZN(set:Nat):Nat→List Nat
 |0=>[]
 |i+1=>if set/2^i % 2=1 then ZN set i++[i]else ZN set i
def prI(n:Nat)(A:Nat→Nat→Int)(s:Nat):Int:=sgI (ZN s n).length*zH (ZN s n).length (fun i j=>A ((ZN s n).getD i 0) ((ZN s n).getD j 0))
def cfI(n:Nat)(A:Nat→Nat→Int):Nat→Nat→Int
 |0,_=>0
 |s+1,k=>if n-(ZN s n).length=k then cfI n A s k+prI n A s else cfI n A s k
theorem cf1(A:Nat→Nat→Int):cfI 1 A 2 0= -A 0 0∧cfI 1 A 2 1=1:=by
 constructor
 ·simp[cfI,prI,ZN,sgI,aeq]
 ·simp[cfI,prI,ZN,sgI,zH]
theorem cf2(A:Nat→Nat→Int):cfI 2 A 4 0=A 0 0*A 1 1-A 0 1*A 1 0∧cfI 2 A 4 1= -(A 0 0+A 1 1)∧cfI 2 A 4 2=1:=by
 refine⟨?_,?_,?_⟩
 ·simp[cfI,prI,ZN,sgI,abb]
 ·simp[cfI,prI,ZN,sgI,aeq];omega
 ·simp[cfI,prI,ZN,sgI,zH]
theorem cf3(A:Nat→Nat→Int):cfI 3 A 8 0= -zH 3 A∧cfI 3 A 8 1=A 0 0*A 1 1-A 0 1*A 1 0+(A 0 0*A 2 2-A 0 2*A 2 0)+(A 1 1*A 2 2-A 1 2*A 2 1)∧cfI 3 A 8 2= -(A 0 0+A 1 1+A 2 2)∧cfI 3 A 8 3=1:=by
 refine⟨?_,?_,?_,?_⟩
 ·simp[cfI,prI,ZN,sgI,aba]
 ·simp[cfI,prI,ZN,sgI,abb]
 ·simp[cfI,prI,ZN,sgI,aeq];omega
 ·simp[cfI,prI,ZN,sgI,zH]
theorem cf4(A:Nat→Nat→Int):cfI 4 A 16 0=zH 4 A∧cfI 4 A 16 1= -(pm3 A 0+pm3 A 1+pm3 A 2+pm3 A 3)∧cfI 4 A 16 2=m2 A 0 1 0 1+m2 A 0 2 0 2+m2 A 0 3 0 3+m2 A 1 2 1 2+m2 A 1 3 1 3+m2 A 2 3 2 3
  ∧cfI 4 A 16 3= -(A 0 0+A 1 1+A 2 2+A 3 3)∧cfI 4 A 16 4=1:=by
 refine⟨?_,?_,?_,?_,?_⟩
 ·simp[cfI,prI,ZN,sgI,asg]
 ·simp[cfI,prI,ZN,sgI,aba,pm3,aaj,skp];omega
 ·simp[cfI,prI,ZN,sgI,abb,m2];omega
 ·simp[cfI,prI,ZN,sgI,aeq];omega
 ·simp[cfI,prI,ZN,sgI,zH]
theorem aTZ{n:Nat}(h1:1≤n)(h4:n≤4)(A:Nat→Nat→Int){i j:Nat}(hi:i<n)(hj:j<n):qB (fun k=>cfI n A (2^n) k*Zi n A k i j) (n+1)=0:=by
 rcases(show n=1∨n=2∨n=3∨n=4 by omega)with rfl|rfl|rfl|rfl
 ·obtain⟨a,b⟩:=cf1 A
  obtain rfl:i=0:=by omega
  obtain rfl:j=0:=by omega
  have:=ch1 A
  show 0+cfI 1 A 2 0*_+cfI 1 A 2 1*_=0
  rw[a,b];grind
 ·obtain⟨a,b,c⟩:=cf2 A
  have:=ch2 A hi hj
  show 0+cfI 2 A 4 0*_+cfI 2 A 4 1*_+cfI 2 A 4 2*_=0
  rw[a,b,c];grind
 ·obtain⟨a,b,c,d⟩:=cf3 A
  have:=ch3 A hi hj
  show 0+cfI 3 A 8 0*_+cfI 3 A 8 1*_+cfI 3 A 8 2*_+cfI 3 A 8 3*_=0
  rw[a,b,c,d];grind
 ·obtain⟨a,b,c,d,e⟩:=cf4 A
  have:=ch4 A hi hj
  show 0+cfI 4 A 16 0*_+cfI 4 A 16 1*_+cfI 4 A 16 2*_+cfI 4 A 16 3*_+cfI 4 A 16 4*_=0
  rw[a,b,c,d,e];grind
theorem aMM{n:Nat}(h1:1≤n)(h4:n≤4)(A:Nat→Nat→Int):cfI n A (2^n) 0=(if n % 2=1 then-zH n A else zH n A)∧cfI n A (2^n) (n-1)= -qB (fun i=>A i i) n∧cfI n A (2^n) n=1:=by
 rcases(show n=1∨n=2∨n=3∨n=4 by omega)with rfl|rfl|rfl|rfl
 ·obtain⟨a,b⟩:=cf1 A
  refine⟨?_,?_,b⟩
  ·show cfI 1 A 2 0=_
   rw[a,aeq];rfl
  ·show cfI 1 A 2 0=_
   rw[a];simp[qB]
 ·obtain⟨a,b,c⟩:=cf2 A
  refine⟨?_,?_,c⟩
  ·show cfI 2 A 4 0=_
   rw[a,abb];rfl
  ·show cfI 2 A 4 1=_
   rw[b];simp[qB]
 ·obtain⟨a,b,c,d⟩:=cf3 A
  refine⟨?_,?_,d⟩
  ·show cfI 3 A 8 0=_
   rw[a];rfl
  ·show cfI 3 A 8 2=_
   rw[c];simp[qB]
 ·obtain⟨a,b,c,d,e⟩:=cf4 A
  refine⟨?_,?_,e⟩
  ·show cfI 4 A 16 0=_
   rw[a];rfl
  ·show cfI 4 A 16 3=_
   rw[d];simp[qB]
end Go.Ab
namespace Go.Ab
open Go Go.Proofs
theorem Jr(l:List UInt8)(hl:l.length≤9223372036854775807):Con Tryz.prog 43 false [.sl l.length (qj l)] [] (fun r hs bs=>hs=[]∧bs=[]∧∃(n:Int) (L:List DyV),beY L∧r=.ag [.v (.int .i64 n),.sl L.length (ql DyV.cs L)]):=by
 refine Con.of_aw Tryz.func43 rfl Tryz.ntmps43 (by simp) (by simp) (by simp) (W.sound ?_)
 show @W Tryz.prog 6 ⟨_⟩ ⟨fun x σ=>@q7 _ _ _ ⟨_⟩ _ ⟨_⟩ x σ⟩ _ _
 simp(disch:=omega)only[go_sem]
 refine zf (arh l hl) (by simp(disch:=omega)only[go_sem]) ?_
 rintro r hs ⟨rfl, -,⟨h,rfl⟩⟩
 refine⟨by simp(disch:=omega)only[go_sem],?_⟩
 simp(disch:=omega)only[go_sem]
 refine qw (JF l hl 0 h (by omega)) ?_
 rintro r i1 h1 hi1 ⟨k,L,hL1,hL2,rfl⟩
 simp(disch:=omega)only[go_sem]
 exact qR (by simp(disch:=omega)only[go_sem]) ⟨rfl,rfl,k,L,⟨hL1,hL2⟩,rfl⟩
theorem Zp{set:Nat}:∀n,zw set n=ZN set n
 |0=>rfl
 |n+1=>by rw[zw,ZN,Zp n]
theorem Xf{n:Nat}{L:List ExV}(hl:L.length=n*n)(hK:eK 3000 L):∀(s k:Nat),k≤n→(yb n L s k).val (3000*(n-k))=cfI n (mv 3000 L n) s k∧ -((3000*(n-k):Nat):Int)≤(yb n L s k).e
 |0,k,hk=>⟨yv _,by show-((3000*(n-k):Nat):Int)≤0;omega⟩
 |s+1,k,hk=>by
  obtain⟨h1,h2⟩:=Xf hl hK s k hk
  rw[yb,cfI]
  have hm:=yF (set:=s) n
  have hsub:eK 3000 (Xr n L s):=fun x hx=>by
   unfold Xr gl at hx
   obtain⟨t,ht,rfl⟩:=List.mem_map.1 hx
   have ht:=List.mem_range.1 ht
   have h0:0<(zw s n).length:=Nat.pos_of_ne_zero fun e=>by rw[e]at ht;omega
   have hj:=Nat.mod_lt t h0
   have hi:t/(zw s n).length<(zw s n).length:=(Nat.div_lt_iff_lt_mul h0).2 ht
   exact y3 hK (by rw[hl];exact qN (jJ hi) (jJ hj))
  by_cases h:n-(zw s n).length=k
  ·rw[if_pos h,if_pos (by rw[←Zp];exact h)]
   obtain⟨d1,d2⟩:=Y2 (K:=3000) (zw s n).length (Xr n L s) Zq hsub
   have e:(zw s n).length=n-k:=by omega
   have d1':((jH (zw s n).length (Xr n L s)).sgn (zw s n).length).val (3000*(n-k))=prI n (mv 3000 L n) s:=by
    unfold prI
    rw[←Zp,←e,ao9,d1]
    congr 1
    refine jv fun i j hi hj=>?_
    unfold mv Xr
    rw[aqc hi hj]
   have d2': -((3000*(n-k):Nat):Int)≤((jH (zw s n).length (Xr n L s)).sgn (zw s n).length).e:=by
    rw[aOK,←e];exact d2
   exact⟨by rw[j7 h2 d2',h1,d1'],JV h2 d2'⟩
  ·rw[if_neg h,if_neg (by rw[←Zp];exact h)]
   exact⟨h1,h2⟩
theorem aEx{n:Nat}{L:List ExV}(hl:L.length=n*n)(hK:eK 3000 L):∀k,k≤n→(trE n L k).val 3000=qB (fun i=>mv 3000 L n i i) k∧ -((3000:Nat):Int)≤(trE n L k).e
 |0,_=>⟨yv _,by show-((3000:Nat):Int)≤0;omega⟩
 |k+1,hk=>by
  obtain⟨h1,h2⟩:=aEx hl hK k (by omega)
  have h3:=y3 hK (i:=k*n+k) (by rw[hl];exact qN (by omega) (by omega))
  rw[ae7]
  exact⟨by rw[j7 h2 h3,h1];rfl,JV h2 h3⟩
theorem aD5{K:Nat}{x:ExV}(h: -(K:Int)≤x.e)(h0:x.val K=0):x.fit=true∧x.can=ex0:=by
 obtain⟨a,b⟩:=aOq (K:=K) (y:=ex0) h (by show-(K:Int)≤0;omega) (by rw[h0,yv])
 have hf:x.fit=true:=by rw[b];exact aFC Qy
 exact⟨hf,by rw[←Ys hf,a,aPq Qy]⟩
theorem aBV{n:Nat}{L:List ExV}(h:matV n L)(hf:(yo n L (2^n)).all ExV.fit=true):∀x∈yU n L ((yo n L (2^n)).map ExV.can) (n+1),x.fit=true∧x.can=ex0:=by
 have hp:∀x∈(yo n L (2^n)).map ExV.can,x.ok=true:=fun x hx=>by
  obtain⟨y,hy,rfl⟩:=List.mem_map.1 hx
  exact afL (List.all_eq_true.1 hf y hy)
 have h1:=h.n1
 have h4:=h.n4
 have hk:=aoZ h hp (n+1) (by omega)
 intro x hx
 obtain⟨t,ht,rfl⟩:=List.getElem_of_mem hx
 have ht2:t<n*n:=by rw[←jz (n:=n) (L:=L) (p:=(yo n L (2^n)).map ExV.can) (n+1)];exact ht
 have hmod:=Nat.mod_lt t (show 0<n by omega)
 have hdiv:t/n<n:=(Nat.div_lt_iff_lt_mul (by omega)).2 ht2
 refine aD5 (K:=40000) (hk _ (List.getElem_mem ht)) ?_
 have e:=afd h hp (n+1) (by omega) hdiv hmod
 have e2:mv 40000 (yU n L ((yo n L (2^n)).map ExV.can) (n+1)) n (t/n) (t % n)=((yU n L ((yo n L (2^n)).map ExV.can) (n+1))[t]).val 40000:=by
  unfold mv
  rw[show t/n*n+t % n=t by rw[Nat.mul_comm];exact Nat.div_add_mod t n,List.getD_eq_getElem?_getD,List.getElem?_eq_getElem ht];rfl
 rw[←e2,e]
 have hz:aOY n (fun t=>(((yo n L (2^n)).map ExV.can).getD t ex0).val 3000) (mv 3000 L n) (n+1) (t/n) (t % n)*p2 (3000*n)=0:=by
  have key:aOY n (fun t=>(((yo n L (2^n)).map ExV.can).getD t ex0).val 3000) (mv 3000 L n) (n+1) (t/n) (t % n)*p2 (3000*n)=qB (fun k=>cfI n (mv 3000 L n) (2^n) k*Zi n (mv 3000 L n) k (t/n) (t % n)) (n+1)*p2 40000:=by
   unfold aOY
   rw[←yD,←yD]
   refine qG fun k hk=>?_
   obtain⟨c1,c2⟩:=Xf h.len (h.eK (by omega)) (2^n) k (by omega)
   have g:((yo n L (2^n)).map ExV.can).getD k ex0=(yb n L (2^n) k).can:=by
    rw[aec (by rw[z8];omega),YB hk]
   have ok:=aUP hp k
   rw[g]at ok
   have r:=(jt ok).1.1
   dsimp only
   rw[g]
   have u1:(yb n L (2^n) k).can.val (3000+3000*(n-k))=(yb n L (2^n) k).can.val 3000*p2 (3000*(n-k)):=akQ (by omega)
   have u2:(yb n L (2^n) k).can.val (3000*(n-k)+3000)=(yb n L (2^n) k).can.val (3000*(n-k))*p2 3000:=akQ (aT1 c2 (by omega))
   rw[Xj c2,c1]at u2
   rw[Nat.add_comm,u2]at u1
   have e1:p2 (40000-3000*(k+1))*p2 (3000*n)=p2 (3000*(n-k))*p2 37000:=by
    rw[←apv,←apv];exact congrArg p2 (by omega)
   have e2:p2 40000=p2 3000*p2 37000:=aBW (by omega)
   generalize (yb n L (2^n) k).can.val 3000=X at*
   generalize cfI n (mv 3000 L n) (2^n) k=C at*
   generalize Zi n (mv 3000 L n) k (t/n) (t % n)=Y at*
   rw[e2]
   generalize p2 (40000-3000*(k+1))=a1 at*
   generalize p2 (3000*n)=a2 at*
   generalize p2 (3000*(n-k))=a3 at*
   generalize p2 37000=a4 at*
   generalize p2 3000=a5 at*
   calc X*Y*a1*a2=X*Y*(a1*a2):=by rw[Int.mul_assoc]
    _=X*Y*(a3*a4):=by rw[e1]
    _=(X*a3)*Y*a4:=by grind
    _=(C*a5)*Y*a4:=by rw[u1]
    _=C*Y*(a5*a4):=by grind
  rw[key,aTZ h1 h4 _ hdiv hmod,Int.zero_mul]
 have:=aPm (3000*n)
 rcases Int.mul_eq_zero.1 hz with hz|hz
 ·exact hz
 ·omega
set_option maxRecDepth 100000 in
set_option maxHeartbeats 4000000 in
theorem apW(l:List UInt8)(hl:l.length≤9223372036854775807):Con Tryz.prog 8 true [.sl l.length (qj l)] [] (isA (.v (.bool true))):=by
 refine Con.of_w (rs:=[.tmp 2]) Tryz.func8 rfl Tryz.ntmps8 rfl ?_
 simp(disch:=omega)only[go_sem]
 refine zf (Jr l hl) (by simp(disch:=omega)only[go_sem]) ?_
 rintro r hs ⟨rfl, -,⟨k,M,⟨a1,a2⟩,rfl⟩⟩
 refine⟨by simp[qQ],?_⟩
 simp(disch:=omega)only[go_sem]
 cases hA:afp k M
 ·refine qa (JH k M a1 a2 hA) ?_
  simp(disch:=omega)only[go_sem]
  refine qn (aaT) ?_
  simp(disch:=omega)only[go_sem]
  exact qx
 obtain⟨n,L,rfl,rfl,hL⟩:=aFI hA
 rw[afh,List.length_map]
 have cP:=aaV n L hL
 cases hf:(yo n L (2^n)).all ExV.fit
 ·rw[hf,if_neg (by simp)]at cP
  refine qa (cP) ?_
  simp(disch:=omega)only[go_sem]
  refine qn (aaT) ?_
  simp(disch:=omega)only[go_sem]
  exact qx
 rw[hf,if_pos rfl]at cP
 have hz:=aBV hL hf
 have h1:=hL.n1
 have h4:=hL.n4
 have hPl:((yo n L (2^n)).map ExV.can).length=n+1:=by rw[List.length_map,z8]
 have hPo:∀x∈(yo n L (2^n)).map ExV.can,x.ok=true:=fun x hx=>by
  obtain⟨y,hy,rfl⟩:=List.mem_map.1 hx
  exact afL (List.all_eq_true.1 hf y hy)
 have hPv:∀i,i≤n→(((yo n L (2^n)).map ExV.can).getD i ex0).val (3000*(n-i))=cfI n (mv 3000 L n) (2^n) i∧ -((3000*(n-i):Nat):Int)≤(((yo n L (2^n)).map ExV.can).getD i ex0).e:=fun i hi=>by
  obtain⟨c1,c2⟩:=Xf hL.len (hL.eK (by omega)) (2^n) i hi
  rw[aec (by rw[z8];omega),YB (by omega),Xj c2,c1]
  exact⟨rfl,aT1 c2 (by omega)⟩
 have hq:=yi h4
 generalize (yo n L (2^n)).map ExV.can=P at*
 have cX:=aeN n L P hL hPo (by omega)
 rw[hPl]at cX
 have hX1:(yU n L P (n+1)).all ExV.fit=true:=List.all_eq_true.2 fun x hx=>(hz x hx).1
 obtain⟨e1,e2,gX⟩:=ban (l:=yU n L P (n+1)) hL.n1 hL.n4 (jz _) hX1
 have hX2:∀i,i<n*n→((yU n L P (n+1)).map ExV.can).getD i ex0=ex0:=fun i hi=>by
  rw[aec (by rw[jz];exact hi),List.getD_eq_getElem?_getD,List.getElem?_eq_getElem (by rw[jz];exact hi)]
  exact(hz _ (List.getElem_mem _)).2
 rw[hX1,e1,e2]at cX
 generalize (yU n L P (n+1)).map ExV.can=X at*
 have hXl:=gX.len
 refine qa (cP) ?_
 simp(disch:=omega)only[go_sem]
 refine qa (cX) ?_
 simp(disch:=omega)only[go_sem]
 refine qh (fun i:Nat=>[(3,.pt 3 0),(4,.sl (n+1) (ql ExV.cs P)),(6,.pt 6 0),(7,.v (.bool true)),(8,.v (.int .i64 i))])
  (fun _=>[(3,.own 0 [.v (.int .i64 n),.sl L.length (ql ExV.cs L)]),(6,.own 0 [.v (.int .i64 n),.sl X.length (ql ExV.cs X)])]) (fun i=>i≤n*n) (fun i=>n*n-i) 0 (by omega)
  (Le.lst [(3,50000000),(6,80000000)] _ _ rfl (by simp(disch:=omega)only[go_sem]) (by simp(disch:=omega)only[go_sem])) ?_
 intro i hi
 simp(disch:=omega)only[go_sem]
 refine qe (fun c1=>?_) (fun c1=>?_)
 ·have hx:=hX2 i (by omega)
  simp(disch:=omega)only[go_sem,c1]
  refine⟨by omega,?_⟩
  rw[aed,aqw (by omega),hx]
  refine⟨by rw[Qe];show i*3+1+1≤_;omega,?_⟩
  have el:(lim ex0.m).length=0:=by show(lim 0).length=0;rw[qm];rfl
  rw[el]
  simp(disch:=omega)only[go_sem,show decide ((0:Int)<((0:Nat):Int))=false from rfl]
  exact qb (i+1) [] (by show i+1≤n*n;omega) (by show n*n-(i+1)<n*n-i;omega) rfl (by simp(disch:=omega)only[go_sem];try omega) (by simp(disch:=omega)only[go_sem])
 have oP0:=hPo (P.getD 0 ex0) (by rw[List.getD_eq_getElem?_getD,List.getElem?_eq_getElem (by omega)];exact List.getElem_mem _)
 have oP1:=hPo (P.getD (n-1) ex0) (by rw[List.getD_eq_getElem?_getD,List.getElem?_eq_getElem (by omega)];exact List.getElem_mem _)
 have oPn:=hPo (P.getD n ex0) (by rw[List.getD_eq_getElem?_getD,List.getElem?_eq_getElem (by omega)];exact List.getElem_mem _)
 obtain⟨z0,z1,zn⟩:=aMM h1 h4 (mv 3000 L n)
 have v0:=(hPv 0 (by omega)).1
 have v1:=(hPv (n-1) (by omega)).1
 obtain⟨vn,en⟩:=hPv n (by omega)
 rw[z0,Nat.sub_zero]at v0
 rw[z1,show n-(n-1)=1 by omega,Nat.mul_one]at v1
 rw[zn,Nat.sub_self,Nat.mul_zero]at vn
 rw[Nat.sub_self,Nat.mul_zero]at en
 have g0:=zF (l:=P) (i:=0) (by omega)
 have g1:=zF (l:=P) (i:=n-1) (by omega)
 have gn:=zF (l:=P) (i:=n) (by omega)
 generalize P.getD 0 ex0=x0 at*
 generalize P.getD (n-1) ex0=x1 at*
 generalize P.getD n ex0=xn at*
 have o1:ex1.ok=true:=by decide+kernel
 have hxn:xn=ex1:=apx (K:=0) oPn o1 en (by show-((0:Nat):Int)≤0;omega) (by rw[vn];decide+kernel)
 have c1n:=Jh xn ex1 oPn o1
 rw[decide_eq_true hxn]at c1n
 have d1:=Jp 0 (by omega)
 change Con _ _ _ _ _ (isA (.ag [.v (.bool (ex1).s),.sl (lim (ex1).m).length (qc (lim (ex1).m)),.v (.int .i64 (ex1).e)]))at d1
 have od:=JN (jH n L)
 have ot:=JN (trE n L n)
 have vd:(jH n L).fit=true→(jH n L).tel.val (3000*n)=zH n (mv 3000 L n):=fun h=>aMy hL h
 have vt:(trE n L n).fit=true→(trE n L n).tel.val 3000=qB (fun i=>mv 3000 L n i i) n:=fun h=>by
  obtain⟨t1,t2⟩:=aEx hL.len (hL.eK (by omega)) n (Nat.le_refl n)
  rw[Ys h,Xj t2,t1]
 have ht1:(trE n L n).fit=true→x1=(trE n L n).tel.neg:=fun hf=>apx (K:=3000) oP1 (aag ot) (by have:=(jt oP1).1;omega) (by have:=(jt (aag ot)).1;omega) (by rw[v1,ad6,vt hf])
 have cdet:=aeP n L hL
 have ctr:=Xe n L hL
 have ek:(n:Int)-1=((n-1:Nat):Int):=by omega
 have hd0:∀d:ExV,d.ok=true→d.val (3000*n)=(if n % 2=1 then-zH n (mv 3000 L n)else zH n (mv 3000 L n))→x0=d:=fun d od hd=>apx (K:=3000*n) oP0 od (by have:=(jt oP0).1;omega) (by have:=(jt od).1;omega) (by rw[v0,hd])
 generalize (jH n L).tel=d at*
 generalize (trE n L n).tel=t at*
 generalize (jH n L).fit=b1 at*
 generalize (trE n L n).fit=b2 at*
 simp(disch:=omega)only[go_sem,c1]
 refine qa (cdet) ?_
 simp(disch:=omega)only[go_sem]
 refine qa (ctr) ?_
 simp(disch:=omega)only[go_sem]
 have ct:=aaG t ot
 have ont:=aag ot
 have fin:∀d':ExV,d'.ok=true→(b1=true→x0=d')→(b1=true→Con Tryz.prog 27 true [.ag [.v (.bool (x0).s),.sl (lim (x0).m).length (qc (lim (x0).m)),.v (.int .i64 (x0).e)],.ag [.v (.bool (d').s),.sl (lim (d').m).length (qc (lim (d').m)),.v (.int .i64 (d').e)]] [] (isA (.v (.bool true))))∧(b2=true→Con Tryz.prog 27 true [.ag [.v (.bool (x1).s),.sl (lim (x1).m).length (qc (lim (x1).m)),.v (.int .i64 (x1).e)],.ag [.v (.bool (t.neg).s),.sl (lim (t.neg).m).length (qc (lim (t.neg).m)),.v (.int .i64 (t.neg).e)]] [] (isA (.v (.bool true)))):=fun d' od' h'=>by
  refine⟨fun hb=>?_,fun hb=>?_⟩
  ·have c:=Jh x0 d' oP0 od'
   rw[decide_eq_true (h' hb)]at c;exact c
  ·have c:=Jh x1 t.neg oP1 ont
   rw[decide_eq_true (ht1 hb)]at c;exact c
 generalize t.neg=t' at*
 have hn1:((n:Int)-1).toNat=n-1:=by omega
 by_cases hodd:n % 2=1
 ·obtain⟨f1,f2⟩:=fin d.neg (aag od) fun hb=>hd0 d.neg (aag od) (by rw[ad6,vd hb,if_pos hodd])
  simp(disch:=omega)only[go_sem,decide_eq_true (show(n:Int) % 2=1 by omega)]
  refine qa (aaG d od) ?_
  simp(disch:=omega)only[go_sem]
  generalize d.neg=d' at*
  refine qq rfl [⟨0,[],[]⟩,⟨1,[],[]⟩,⟨2,[],[]⟩,⟨3,[],[]⟩,⟨4,[],[]⟩,⟨5,[],[]⟩,⟨6,[],[]⟩,⟨7,[],[]⟩,⟨8,[],[]⟩,⟨9,[],[]⟩,⟨10,[],[]⟩,⟨11,[],[]⟩,⟨12,[],[]⟩,⟨13,[],[]⟩,⟨14,[],[]⟩,⟨15,[12,14],[]⟩,⟨16,[],[]⟩,⟨17,[],[]⟩,⟨18,[],[]⟩,⟨19,[],[]⟩,⟨20,[],[]⟩,⟨21,[],[]⟩,⟨22,[],[]⟩,⟨23,[],[]⟩,⟨24,[],[]⟩,⟨25,[24],[]⟩,⟨26,[],[]⟩,⟨27,[],[]⟩,⟨28,[],[]⟩,⟨29,[],[]⟩,⟨30,[],[]⟩,⟨31,[],[]⟩,⟨32,[],[]⟩,⟨33,[],[]⟩,⟨34,[],[]⟩,⟨35,[],[]⟩,⟨36,[],[]⟩,⟨37,[],[]⟩,⟨38,[],[]⟩,⟨39,[35,38],[]⟩,⟨40,[35,38],[]⟩,⟨41,[],[]⟩,⟨42,[],[]⟩,⟨43,[],[]⟩,⟨44,[],[]⟩] (by kernel_rfl) ?_
  simp(disch:=omega)only[go_sem,decide_eq_true (show((n+1:Nat):Int)=n+1 by omega),gn,g0,g1,ek]
  refine⟨by omega,by omega,?_⟩
  refine qa (d1) ?_
  simp(disch:=omega)only[go_sem]
  refine qn (c1n) ?_
  simp(disch:=omega)only[go_sem]
  rcases b1 with _|_<;>rcases b2 with _|_
  ·simp(disch:=omega)only[go_sem]
   exact qx
  ·simp(disch:=omega)only[go_sem,g1,ek]
   refine⟨by omega,by omega,?_⟩
   refine qa (ct) ?_
   simp(disch:=omega)only[go_sem]
   refine qn (f2 rfl) ?_
   simp(disch:=omega)only[go_sem]
   exact qx
  ·simp(disch:=omega)only[go_sem,g0]
   refine⟨by omega,by omega,?_⟩
   refine qn (f1 rfl) ?_
   simp(disch:=omega)only[go_sem]
   exact qx
  ·simp(disch:=omega)only[go_sem,g0]
   refine⟨by omega,by omega,?_⟩
   refine qn (f1 rfl) ?_
   simp(disch:=omega)only[go_sem]
   refine⟨by omega,by omega,?_⟩
   refine qa (ct) ?_
   simp(disch:=omega)only[go_sem]
   refine qn (f2 rfl) ?_ (by simp(disch:=omega)only[go_sem,hn1,g1])
   simp(disch:=omega)only[go_sem]
   exact qx
 ·obtain⟨f1,f2⟩:=fin d od fun hb=>hd0 d od (by rw[vd hb,if_neg hodd])
  simp(disch:=omega)only[go_sem,decide_eq_false (show ¬(n:Int) % 2=1 by omega)]
  refine qq rfl [⟨0,[],[]⟩,⟨1,[],[]⟩,⟨2,[],[]⟩,⟨3,[],[]⟩,⟨4,[],[]⟩,⟨5,[],[]⟩,⟨6,[],[]⟩,⟨7,[],[]⟩,⟨8,[],[]⟩,⟨9,[],[]⟩,⟨10,[],[]⟩,⟨11,[],[]⟩,⟨12,[],[]⟩,⟨13,[],[]⟩,⟨14,[],[]⟩,⟨15,[12,14],[]⟩,⟨16,[],[]⟩,⟨17,[],[]⟩,⟨18,[],[]⟩,⟨19,[],[]⟩,⟨20,[],[]⟩,⟨21,[],[]⟩,⟨22,[],[]⟩,⟨23,[],[]⟩,⟨24,[],[]⟩,⟨25,[24],[]⟩,⟨26,[],[]⟩,⟨27,[],[]⟩,⟨28,[],[]⟩,⟨29,[],[]⟩,⟨30,[],[]⟩,⟨31,[],[]⟩,⟨32,[],[]⟩,⟨33,[],[]⟩,⟨34,[],[]⟩,⟨35,[],[]⟩,⟨36,[],[]⟩,⟨37,[],[]⟩,⟨38,[],[]⟩,⟨39,[35,38],[]⟩,⟨40,[35,38],[]⟩,⟨41,[],[]⟩,⟨42,[],[]⟩,⟨43,[],[]⟩,⟨44,[],[]⟩] (by kernel_rfl) ?_
  simp(disch:=omega)only[go_sem,decide_eq_true (show((n+1:Nat):Int)=n+1 by omega),gn,g0,g1,ek]
  refine⟨by omega,by omega,?_⟩
  refine qa (d1) ?_
  simp(disch:=omega)only[go_sem]
  refine qn (c1n) ?_
  simp(disch:=omega)only[go_sem]
  rcases b1 with _|_<;>rcases b2 with _|_
  ·simp(disch:=omega)only[go_sem]
   exact qx
  ·simp(disch:=omega)only[go_sem,g1,ek]
   refine⟨by omega,by omega,?_⟩
   refine qa (ct) ?_
   simp(disch:=omega)only[go_sem]
   refine qn (f2 rfl) ?_
   simp(disch:=omega)only[go_sem]
   exact qx
  ·simp(disch:=omega)only[go_sem,g0]
   refine⟨by omega,by omega,?_⟩
   refine qn (f1 rfl) ?_
   simp(disch:=omega)only[go_sem]
   exact qx
  ·simp(disch:=omega)only[go_sem,g0]
   refine⟨by omega,by omega,?_⟩
   refine qn (f1 rfl) ?_
   simp(disch:=omega)only[go_sem]
   refine⟨by omega,by omega,?_⟩
   refine qa (ct) ?_
   simp(disch:=omega)only[go_sem]
   refine qn (f2 rfl) ?_ (by simp(disch:=omega)only[go_sem,hn1,g1])
   simp(disch:=omega)only[go_sem]
   exact qx
end Go.Ab
namespace Go.Proofs.YtcobffkepgogiaaGreatDoor
open Go.ChangeShapes Go.WideShapes Go.ChangeAt Go.RowKit Go.Ab
theorem own:ownKnob Tryz.prog.godebug=none:=by kernel_rfl
theorem apX:laidOutB Tryz.prog=true:=by kernel_rfl
theorem aoX:Tryz.prog.globalNamed "math/bits.deBruijn64tab" =some 1:=by kernel_rfl
theorem aJB:(Tryz.prog.globals[1]?).map (·.type)=some 262:=by kernel_rfl
theorem aJA:Tryz.prog.underlying 262=some (.array 64 5):=by kernel_rfl
theorem aJE:Tryz.prog.underlying 5=some (.int .u8):=by kernel_rfl
theorem aJF:Tryz.prog.cellsOf 5=1:=by kernel_rfl
theorem aJC:Tryz.prog.cellsOf 262=64:=by kernel_rfl
noncomputable def yO:List (String×DataW Unit):=[("math/bits.deBruijn32tab",Rows.laid_math_bits_deBruijn32tab),("math/bits.deBruijn64tab",Rows.laid_math_bits_deBruijn64tab)]
theorem aJD{W:World}(h:laidMetH Tryz.prog yO W):Gd W:=by
 have h':laidMet Tryz.prog yO W:=h
 have h2:laidMet Tryz.prog [("math/bits.deBruijn64tab",Lib.tabData .u8 (Lib.deBruijn64tab.map Int.ofNat))] W:=laidMet.tail h'
 have hT:=Lib.tabIs_of_head aoX aJB aJA aJE aJF aJC h2
 intro g l hg
 unfold glb at hg
 split at hg
 ·rename_i e
  subst e
  cases hg
  have hc:∀i,i<Lib.deBruijn64tab.length→W.cell? ⟨1,i,none⟩=some (.int .u8 ((Lib.deBruijn64tab.getD i 0:Nat):Int)):=fun i hi=>by
   have:=hT.cell aoX i (by simpa using hi)
   rw[this]
   simp[List.getD,hi]
  exact⟨afK (hc 0 (by decide)),hc⟩
 ·cases hg
noncomputable def aan(os:Os):World:=
 let w0:=World.holding Tryz.prog os ⟨#[],#[],[]⟩
 {w0 with heap:=(w0.heap.modify 1 fun
   | .cells _ t frozen=>.cells (Lib.deBruijn64tab.map fun z=>Value.int .u8 (Int.ofNat z)).toArray t frozen
   |o=>o).modify 0 fun
   | .cells _ t frozen=>.cells (Lib.deBruijn32tab.map fun z=>Value.int .u8 (Int.ofNat z)).toArray t frozen
   |o=>o}
theorem YO(os:Os)(args:Array Value):laidMetH Tryz.prog yO ((aan os).forCall (fun _ _=>0) ⟨#[],args,[]⟩).memory:=
 laidMetH_of_parts (laidMet_of_run' 8 (by kernel_rfl) (by kernel_rfl)) (by kernel_rfl)
end Go.Proofs.YtcobffkepgogiaaGreatDoor
