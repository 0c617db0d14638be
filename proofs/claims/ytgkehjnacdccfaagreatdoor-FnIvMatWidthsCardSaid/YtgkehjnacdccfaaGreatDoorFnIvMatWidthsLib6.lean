/- What the proof of this claim stands on: the walks of the functions and the plain laws, part 6. -/
import Derived.Test.YtgkehjnacdccfaaGreatDoorFnIvMatWidthsLib5
import Derived.Test.YtgkehjnacdccfaaGreatDoorRows
import Derived.Test.YtgkehjnacdccfaaGreatDoorCards
import Derived.Test.YtgkehjnacdccfaaGreatDoorTie
import Derived.Handed
import Derived.ChangeSame
import Derived.JoinedOf
import Derived.RowKit
import Derived.WalkKit
import Derived.ProofKit
import Derived.OpenShut
import Derived.LaidLaws
import Derived.LaidHandle
import Derived.SevenTiedAt
import Derived.Stop.LaidErr
import Derived.Lib.LaidTab
set_option linter.unusedVariables false
set_option linter.unusedSimpArgs false
namespace Go.Ab
/-! ### Ranks-/
theorem ZZ{f:Nat→Int}{k:Nat}:∀{m:Nat},k≤m→(∀i,k≤i→f i=0)→qB f m=qB f k
 |0,h,_=>by
  obtain rfl:k=0:=by omega
  rfl
 |m+1,h,hz=>by
  by_cases e:k=m+1
  ·rw[e]
  ·rw[qB,ZZ (by omega) hz,hz m (by omega),Int.add_zero]
def alm(n k:Nat)(A:Nat→Nat→Int):Prop:=∃(c:Int) (B C:Nat→Nat→Int),c≠0∧∀i j,i<n→j<n→c*A i j=qB (fun t=>B i t*C t j) k
theorem QV{n k:Nat}{A A':Nat→Nat→Int}(h:∀i j,i<n→j<n→A i j=A' i j):alm n k A→alm n k A'
 |⟨c,B,C,h0,h1⟩=>⟨c,B,C,h0,fun i j hi hj=>by rw[←h i j hi hj];exact h1 i j hi hj⟩
theorem aaF{n k:Nat}{A:Nat→Nat→Int}:alm n k A→alm n k (fun i j=>A j i)
 |⟨c,B,C,h0,h1⟩=>⟨c,fun i t=>C t i,fun t j=>B j t,h0,fun i j hi hj=>by
  rw[h1 j i hj hi];exact qM fun t _=>Int.mul_comm _ _⟩
theorem YN(n k:Nat)(f:Nat→Int)(g:Nat→Nat→Int)(h:Nat→Int):qB (fun s=>qB (fun t=>f t*g t s) k*h s) n=qB (fun t=>f t*qB (fun s=>g t s*h s) n) k:=by
 have e1:qB (fun s=>qB (fun t=>f t*g t s) k*h s) n=qB (fun s=>qB (fun t=>f t*(g t s*h s)) k) n:=
  qM fun s _=>by rw[←J4];exact qM fun t _=>Int.mul_assoc _ _ _
 have e2:qB (fun t=>f t*qB (fun s=>g t s*h s) n) k=qB (fun t=>qB (fun s=>f t*(g t s*h s)) n) k:=
  qM fun t _=>by rw[←yQ]
 rw[e1,e2,J5]
theorem arw{n k:Nat}{A:Nat→Nat→Int}(D:Nat→Nat→Int):alm n k A→alm n k (yy n A D)
 |⟨c,B,C,h0,h1⟩=>⟨c,B,yy n C D,h0,fun i j hi hj=>by
  show c*qB (fun t=>A i t*D t j) n=qB (fun t=>B i t*qB (fun s=>C t s*D s j) n) k
  rw[←YN,←yQ]
  exact qM fun s hs=>by rw[←h1 i s hi hs,Int.mul_assoc]⟩
theorem aaG{n k:Nat}{A:Nat→Nat→Int}(D:Nat→Nat→Int):alm n k A→alm n k (yy n D A)
 |⟨c,B,C,h0,h1⟩=>⟨c,yy n D B,C,h0,fun i j hi hj=>by
  show c*qB (fun t=>D i t*A t j) n=qB (fun t=>qB (fun s=>D i s*B s t) n*C t j) k
  rw[YN,←yQ]
  exact qM fun s hs=>by rw[←h1 s j hs hj,Int.mul_left_comm]⟩
def dgI(c:Int)(i j:Nat):Int:=if i=j then c else 0
theorem aUA{n:Nat}(c:Int)(A:Nat→Nat→Int){i j:Nat}(hi:i<n):yy n (dgI c) A i j=c*A i j:=by
 unfold yy
 rw[jo (j:=i) hi (fun t _ hne=>by unfold dgI;rw[if_neg (fun h=>hne h.symm),Int.zero_mul])]
 unfold dgI;rw[if_pos rfl]
theorem aZo{n:Nat}(hn:n≤4){c:Int}(hc:c≠0):jB n (dgI c)≠0:=by
 rcases(show n=0∨n=1∨n=2∨n=3∨n=4 by omega)with rfl|rfl|rfl|rfl|rfl
 ·intro h;cases h
 ·rw[auQ];simp[dgI,hc]
 ·rw[amL];simp[dgI,hc]
 ·rw[amK];simp[dgI,hc]
 ·rw[aJ2];simp[dgI,hc]
theorem aHz{n:Nat}(hn:n≤4)(h1:1≤n){A:Nat→Nat→Int}(h:∀i,A i (n-1)=0):jB n A=0:=by
 rcases(show n=1∨n=2∨n=3∨n=4 by omega)with rfl|rfl|rfl|rfl
 ·have:=h 0
  rw[auQ];simpa using this
 ·have h:∀i,A i 1=0:=h
  rw[amL];simp[h]
 ·have h:∀i,A i 2=0:=h
  rw[amK];simp[h]
 ·have h:∀i,A i 3=0:=h
  rw[aJ2];simp[h]
theorem aFj{n k:Nat}(hn:n≤4)(hk:k<n){A:Nat→Nat→Int}:alm n k A→jB n A=0
 |⟨c,B,C,h0,h1⟩=>by
  have e:jB n (yy n (dgI c) A)=jB n (yy n (fun i t=>if t<k then B i t else 0) C):=yJ fun i j hi hj=>by
   rw[aUA c A hi,h1 i j hi hj]
   show _=qB (fun t=>(if t<k then B i t else 0)*C t j) n
   rw[ZZ (f:=fun t=>(if t<k then B i t else 0)*C t j) (k:=k) (by omega) (fun t ht=>by rw[if_neg (by omega),Int.zero_mul])]
   exact qM fun t ht=>by rw[if_pos ht]
  rw[Jy hn,Jy hn,aHz hn (by omega) (A:=fun i t=>if t<k then B i t else 0) (fun i=>if_neg (by omega)),Int.zero_mul]at e
  exact(Int.mul_eq_zero.1 e).resolve_left (aZo hn h0)
theorem atm{r:Nat}(hr:r≤4){T:Nat→Nat→Int}(hd:∀t,t<r→T t t≠0)(hz:∀s t,t<s→s<r→T s t=0):jB r T≠0:=by
 rcases(show r=0∨r=1∨r=2∨r=3∨r=4 by omega)with rfl|rfl|rfl|rfl|rfl
 ·intro h;cases h
 ·rw[auQ];exact hd 0 (by omega)
 ·rw[amL,hz 1 0 (by omega) (by omega)]
  simp[hd 0 (by omega),hd 1 (by omega)]
 ·rw[amK,hz 1 0 (by omega) (by omega),hz 2 0 (by omega) (by omega),hz 2 1 (by omega) (by omega)]
  simp[hd 0 (by omega),hd 1 (by omega),hd 2 (by omega)]
 ·rw[aJ2,hz 1 0 (by omega) (by omega),hz 2 0 (by omega) (by omega),hz 2 1 (by omega) (by omega),hz 3 0 (by omega) (by omega),hz 3 1 (by omega) (by omega),hz 3 2 (by omega) (by omega)]
  simp[hd 0 (by omega),hd 1 (by omega),hd 2 (by omega),hd 3 (by omega)]
structure isRank(n:Nat)(A:Nat→Nat→Int)(r:Nat):Prop where
 le:r≤n
 up:alm n r A
 low:∀k,alm n k A→r≤k
 full:r=n→jB n A≠0
theorem isRank.turn{n r s:Nat}{A:Nat→Nat→Int}(h:isRank n A r)(g:isRank n (fun i j=>A j i) s):s=r:=
 Nat.le_antisymm (g.low r (aaF h.up)) (h.low s (aaF g.up))
theorem isRank.congr{n r:Nat}{A B:Nat→Nat→Int}(h:isRank n A r)(e:∀i j,i<n→j<n→A i j=B i j):isRank n B r:=
 ⟨h.le,QV e h.up,fun k hk=>h.low k (QV (fun i j hi hj=>(e i j hi hj).symm) hk),fun hr=>by rw[←yJ e];exact h.full hr⟩
theorem isRank.mul{n r s t:Nat}{A B:Nat→Nat→Int}(h:isRank n A r)(g:isRank n B s)(p:isRank n (yy n A B) t):t≤r∧t≤s:=
 ⟨p.low r (arw B h.up),p.low s (aaG A g.up)⟩
structure elim(n:Nat)(A C:Nat→Nat→Int)(r j:Nat):Prop where
 le:r≤n
 rj:r≤j
 u:∃U:Nat→Nat→Int,jB n U≠0∧∀i k,i<n→k<n→C i k=yy n U A i k
 p:∃p:Nat→Nat,∀t,t<r→p t<j∧p t<n∧C t (p t)≠0∧∀s,t<s→s<n→C s (p t)=0
 z:∀i k,r≤i→i<n→k<j→k<n→C i k=0
theorem Yh(n:Nat)(A B C:Nat→Nat→Int)(i j:Nat):yy n (yy n A B) C i j=yy n A (yy n B C) i j:=
 YN n n (fun t=>A i t) B (fun s=>C s j)
theorem elim.rank{n:Nat}(hn:n≤4){A C:Nat→Nat→Int}{r:Nat}(h:elim n A C r n):isRank n A r:=by
 obtain⟨hle, -,⟨U,hU,hC⟩,⟨p,hp⟩,hz⟩:=h
 have lowC:∀k,alm n k C→r≤k:=fun k hk=>by
  rcases Nat.lt_or_ge k r with g|g
  ·exfalso
   obtain⟨c,B,D,h0,h1⟩:=hk
   have ht:alm r k (fun s t=>C s (p t)):=⟨c,B,fun u t=>D u (p t),h0,fun s t hs ht=>h1 s (p t) (by omega) (hp t ht).2.1⟩
   exact atm (by omega) (fun t ht=>(hp t ht).2.2.1) (fun s t hst hs=>(hp t (by omega)).2.2.2 s hst (by omega)) (aFj (by omega) g ht)
  ·exact g
 refine⟨hle,?_,fun k hk=>lowC k (QV (fun i j hi hj=>(hC i j hi hj).symm) (aaG U hk)),fun hr hd=>?_⟩
 ·
  obtain⟨V,hV⟩:∃V:Nat→Nat→Int,∀i j,i<n→j<n→yy n V U i j=if i=j then jB n U else 0:=by
   refine⟨fun i j=>aSt n (fun a b=>U b a) j i,fun i j hi hj=>?_⟩
   have:=aR5 hn (fun a b=>U b a) hj hi
   rw[aHy hn]at this
   have e2:(if i=j then jB n U else 0)=if j=i then jB n U else 0:=by
    by_cases e:i=j
    ·rw[if_pos e,if_pos e.symm]
    ·rw[if_neg e,if_neg (fun h=>e h.symm)]
   rw[e2,←this]
   exact qM fun t _=>Int.mul_comm _ _
  refine⟨jB n U,V,C,hU,fun i j hi hj=>?_⟩
  have e1:qB (fun t=>V i t*C t j) r=qB (fun t=>V i t*C t j) n:=by
   have:qB (fun t=>V i t*C t j) n=qB (fun t=>if t<r then V i t*C t j else 0) n:=qM fun t ht=>by
    by_cases g:t<r
    ·rw[if_pos g]
    ·rw[if_neg g,hz t j (by omega) ht hj hj,Int.mul_zero]
   rw[this,ZZ hle (fun t ht=>if_neg (by omega))]
   exact qM fun t ht=>by rw[if_pos ht]
  rw[e1]
  have e2:qB (fun t=>V i t*C t j) n=yy n (yy n V U) A i j:=by
   rw[Yh]
   exact qM fun t ht=>by rw[hC t j ht hj]
  rw[e2]
  show _=qB (fun t=>yy n V U i t*A t j) n
  rw[jo (j:=i) hi (fun t ht hne=>by rw[hV i t hi ht,if_neg (fun h=>hne h.symm),Int.zero_mul]),hV i i hi hi,if_pos rfl]
 ·subst hr
  have h1:jB r C=0:=by
   rw[yJ hC,Jy hn,hd,Int.mul_zero]
  have h2:jB r (yy r C (fun u t=>if u=p t then 1 else 0))=0:=by rw[Jy hn,h1,Int.zero_mul]
  refine atm hn (T:=fun s t=>C s (p t)) (fun t ht=>(hp t ht).2.2.1) (fun s t hst hs=>(hp t (by omega)).2.2.2 s hst (by omega)) ?_
  rw[←h2]
  refine yJ fun i j hi hj=>?_
  show C i (p j)=qB (fun u=>C i u*(if u=p j then 1 else 0)) r
  rw[jo (j:=p j) (hp j hj).2.1 (fun t _ hne=>by rw[if_neg hne,Int.mul_zero]),if_pos rfl,Int.mul_one]
theorem elim.skip{n:Nat}{A C:Nat→Nat→Int}{r j:Nat}(h:elim n A C r j)(hz:∀i,r≤i→i<n→C i j=0):elim n A C r (j+1):=by
 obtain⟨h1,h2,h3,⟨p,hp⟩,h5⟩:=h
 refine⟨h1,by omega,h3,⟨p,fun t ht=>⟨by have:=(hp t ht).1;omega,(hp t ht).2⟩⟩,fun i k hi hin hk hkn=>?_⟩
 rcases(show k<j∨k=j by omega)with g|rfl
 ·exact h5 i k hi hin g hkn
 ·exact hz i hi hin
def swI(a b i:Nat):Nat:=if i=a then b else if i=b then a else i
theorem atn{n:Nat}(hn:n≤4){a r:Nat}(ha:a<n)(hr:r<n)(hne:a≠r)(p q:Int)(hp:p≠0):jB n (fun i j=>if i=a then(if j=a then p else if j=r then-q else 0)else if i=j then 1 else 0)≠0:=by
 rcases(show n=1∨n=2∨n=3∨n=4 by omega)with rfl|rfl|rfl|rfl
 ·omega
 ·rw[amL]
  rcases(show a=0∨a=1 by omega)with rfl|rfl<;>rcases(show r=0∨r=1 by omega)with rfl|rfl<;>first|omega|simp[hp]
 ·rw[amK]
  rcases(show a=0∨a=1∨a=2 by omega)with rfl|rfl|rfl<;>rcases(show r=0∨r=1∨r=2 by omega)with rfl|rfl|rfl<;>first|omega|simp[hp]
 ·rw[aJ2]
  rcases(show a=0∨a=1∨a=2∨a=3 by omega)with rfl|rfl|rfl|rfl<;>rcases(show r=0∨r=1∨r=2∨r=3 by omega)with rfl|rfl|rfl|rfl<;>first|omega|simp[hp]
structure elimR(n:Nat)(A C:Nat→Nat→Int)(r j m:Nat):Prop where
 rn:r<n
 rj:r≤j
 jn:j<n
 rm:r<m
 u:∃U:Nat→Nat→Int,jB n U≠0∧∀i k,i<n→k<n→C i k=yy n U A i k
 p:∃p:Nat→Nat,∀t,t<r→p t<j∧p t<n∧C t (p t)≠0∧∀s,t<s→s<n→C s (p t)=0
 z:∀i k,r≤i→i<n→k<j→k<n→C i k=0
 pv:C r j≠0
 zm:∀i,r<i→i<m→i<n→C i j=0
theorem elim.pivot{n:Nat}{A C:Nat→Nat→Int}{r j:Nat}(h:elim n A C r j)(hr:r<n)(hj:j<n)(hp:C r j≠0):elimR n A C r j (r+1):=
 ⟨hr,h.rj,hj,by omega,h.u,h.p,h.z,hp,fun i h1 h2=>by omega⟩
theorem elimR.done{n:Nat}{A C:Nat→Nat→Int}{r j m:Nat}(h:elimR n A C r j m)(hm:n≤m):elim n A C (r+1) (j+1):=by
 obtain⟨h1,h2,h3,h4,h5,⟨p,hp⟩,h7,h8,h9⟩:=h
 refine⟨by omega,by omega,h5,⟨fun t=>if t=r then j else p t,fun t ht=>?_⟩,fun i k hi hin hk hkn=>?_⟩
 ·dsimp only
  by_cases e:t=r
  ·rw[if_pos e,e]
   exact⟨by omega,h3,h8,fun s hs hsn=>h9 s hs (by omega) hsn⟩
  ·rw[if_neg e]
   obtain⟨a,b,c,d⟩:=hp t (by omega)
   exact⟨by omega,b,c,d⟩
 ·rcases(show k<j∨k=j by omega)with g|rfl
  ·exact h7 i k (by omega) hin g hkn
  ·exact h9 i (by omega) (by omega) hin
theorem elimR.step{n:Nat}(hn:n≤4){A C C':Nat→Nat→Int}{r j m:Nat}(h:elimR n A C r j m)(hm:m<n)(h1:∀i k,i<n→k<n→i≠m→C' i k=C i k)(h2:∀k,k<n→C' m k=C m k*C r j-C r k*C m j):elimR n A C' r j (m+1):=by
 obtain⟨g1,g2,g3,g4,⟨U,hU,hC⟩,⟨p,hp⟩,g7,g8,g9⟩:=h
 refine⟨g1,g2,g3,by omega,⟨yy n (fun i k=>if i=m then(if k=m then C r j else if k=r then-C m j else 0)else if i=k then 1 else 0) U,?_,fun i k hi hk=>?_⟩,⟨p,fun t ht=>?_⟩,fun i k hi hin hk hkn=>?_,?_,fun i hi him hin=>?_⟩
 ·rw[Jy hn]
  intro e
  rcases Int.mul_eq_zero.1 e with e|e
  ·exact atn hn hm g1 (by omega) (C r j) (C m j) g8 e
  ·exact hU e
 ·rw[Yh]
  show C' i k=qB (fun t=>(if i=m then(if t=m then C r j else if t=r then-C m j else 0)else if i=t then 1 else 0)*yy n U A t k) n
  by_cases e:i=m
  ·subst e
   have e2:qB (fun t=>(if i=i then(if t=i then C r j else if t=r then-C i j else 0)else if i=t then 1 else 0)*yy n U A t k) n=qB (fun t=>(if t=i then C r j*C i k else 0)+(if t=r then-C i j*C r k else 0)) n:=qM fun t ht=>by
    rw[if_pos rfl,←hC t k ht hk]
    by_cases a:t=i
    ·rw[if_pos a,if_pos a,if_neg (show ¬t=r by omega),a,Int.add_zero]
    ·rw[if_neg a,if_neg a]
     by_cases b:t=r
     ·rw[if_pos b,if_pos b,b,Int.zero_add]
     ·rw[if_neg b,if_neg b,Int.zero_mul,Int.add_zero]
   rw[e2,Z0,jo (j:=i) hi (fun t _ hne=>if_neg hne),jo (j:=r) g1 (fun t _ hne=>if_neg hne),if_pos rfl,if_pos rfl,h2 k hk,Int.mul_comm (C i k),Int.neg_mul,Int.mul_comm (C r k)]
   omega
  ·rw[jo (j:=i) hi (fun t _ hne=>by rw[if_neg e,if_neg (fun h=>hne h.symm),Int.zero_mul]),if_neg e,if_pos rfl,Int.one_mul,h1 i k hi hk e]
   exact hC i k hi hk
 ·obtain⟨a,b,c,d⟩:=hp t ht
  refine⟨a,b,?_,fun s hts hsn=>?_⟩
  ·rw[h1 t (p t) (by omega) b (by omega)];exact c
  ·by_cases e:s=m
   ·rw[e,h2 _ b,d m (by omega) hm,d r (by omega) g1];simp
   ·rw[h1 s _ hsn b e];exact d s hts hsn
 ·by_cases e:i=m
  ·rw[e,h2 k hkn,g7 m k (by omega) hm hk hkn,g7 r k (by omega) g1 hk hkn];simp
  ·rw[h1 i k hin hkn e];exact g7 i k hi hin hk hkn
 ·rw[h1 r j g1 g3 (by omega)];exact g8
 ·by_cases e:i=m
  ·rw[e,h2 j g3,Int.mul_comm];omega
  ·rw[h1 i j hin g3 e];exact g9 i hi (by omega) hin
end Go.Ab
namespace Go.Ab
/-! ### Sums of powers of a matrix,at one scale-/
def p2(k:Nat):Int:=2^k
theorem QD(a b:Nat):p2 (a+b)=p2 a*p2 b:=Int.pow_add 2 a b
theorem aaX(a:Nat):0<p2 a:=Int.pow_pos (by omega)
def bmn(n:Nat)(P:Nat→Int)(A:Nat→Nat→Int)(m i j:Nat):Int:=qB (fun t=>P t*bjd n A t i j*p2 (40000-3000*(t+1))) m
end Go.Ab
namespace Go.Ab
open Go Go.Proofs
/-! ### What polynomials of a matrix are worth-/
end Go.Ab
namespace Go.Ab
open Go Go.Proofs
/-! ### What rounded quotients are worth-/
theorem aJA(s:Bool)(a b:Nat)(hb:0<b):(s=false→rq s a b 3*b≤a)∧(s=true→a≤rq s a b 3*b)∧(s=false→a≤rq s a b 2*b)∧(s=true→rq s a b 2*b≤a):=by
 have h1:=Nat.div_add_mod a b
 have h2:=Nat.mod_lt a hb
 have h3:a/b*b=b*(a/b):=Nat.mul_comm _ _
 have h4:(a/b+1)*b=b*(a/b)+b:=by rw[Nat.add_mul,Nat.one_mul,Nat.mul_comm]
 unfold rq rup
 by_cases h:a % b=0
 ·simp only[if_pos h];refine⟨fun _=>?_,fun _=>?_,fun _=>?_,fun _=>?_⟩<;>omega
 ·simp only[if_neg h]
  cases s
  ·refine⟨fun _=>?_,(fun h=>by cases h),fun _=>?_,(fun h=>by cases h)⟩<;>simp<;>omega
  ·refine⟨fun h=>(by cases h),fun _=>?_,fun h=>(by cases h),fun _=>?_⟩<;>simp<;>omega
theorem bgi(s:Bool)(m:Nat):sv s m=sv s 1*(m:Int):=by cases s<;>simp[sv]
theorem agx{x y:ExV}{low mode:Int}{Kx Ky Kz:Nat}(hy0:y.m≠0)(hx: -(Kx:Int)≤x.e)(hy: -(Ky:Int)≤y.e)(hz: -(Kz:Int)≤low):
  ∃(a b:Nat) (f:Int),0<b∧0<f∧(x.over y low mode).val Kz*y.val Ky*p2 Kx=sv x.s 1*((rq (x.s != y.s) a b mode*b:Nat)*f)∧x.val Kx*p2 (Ky+Kz)=sv x.s 1*(a*f)∧((y.val Ky).natAbs:Int)*p2 ((low+Kz).toNat+Kx)=b*f:=by
 obtain⟨k,hk⟩:∃k,k=x.e-y.e-low:=⟨_,rfl⟩
 have hz':(x.over y low mode).val Kz=sv (x.s != y.s) (rq (x.s != y.s) (ovA x.m k) (ovA y.m (-k)) mode)*p2 (low+Kz).toNat:=by
  rw[hk]
  show dv Kz ((x.s != y.s)&&decide (ovQ (x.s != y.s) x.m x.e y.m y.e low mode≠0)) (ovQ (x.s != y.s) x.m x.e y.m y.e low mode) low=_
  rw[agT];rfl
 have hyv:y.val Ky=sv y.s y.m*p2 (y.e+Ky).toNat:=rfl
 have hxv:x.val Kx=sv x.s x.m*p2 (x.e+Kx).toNat:=rfl
 have hb:0<ovA y.m (-k):=Nat.mul_pos (Nat.pos_of_ne_zero hy0) (Nat.pow_pos (by omega))
 generalize hq:rq (x.s != y.s) (ovA x.m k) (ovA y.m (-k)) mode=q at*
 obtain⟨g,hg1,hg2⟩:∃g:Nat,(low+Kz).toNat+(y.e+Ky).toNat+Kx=(-k).toNat+g∧(x.e+Kx).toNat+(Ky+Kz)=k.toNat+g:=by
  refine⟨min ((low+Kz).toNat+(y.e+Ky).toNat+Kx) ((x.e+Kx).toNat+(Ky+Kz)),?_,?_⟩<;>omega
 have ea:((ovA x.m k:Nat):Int)=x.m*p2 k.toNat:=by unfold ovA p2;rw[Int.natCast_mul,Int.natCast_pow];rfl
 have eb:((ovA y.m (-k):Nat):Int)=y.m*p2 (-k).toNat:=by unfold ovA p2;rw[Int.natCast_mul,Int.natCast_pow];rfl
 refine⟨ovA x.m k,ovA y.m (-k),p2 g,hb,aaX g,?_,?_,?_⟩
 ·rw[hq,hz',hyv,Int.natCast_mul,eb]
  have e1:p2 (low+Kz).toNat*p2 (y.e+Ky).toNat*p2 Kx=p2 (-k).toNat*p2 g:=by rw[←QD,←QD,hg1,QD]
  have e2:sv (x.s != y.s) q*sv y.s y.m=sv x.s 1*((q:Int)*y.m):=by
   cases x.s<;>cases y.s<;>(simp[sv];try grind)
  calc sv (x.s != y.s) q*p2 (low+Kz).toNat*(sv y.s y.m*p2 (y.e+Ky).toNat)*p2 Kx=(sv (x.s != y.s) q*sv y.s y.m)*(p2 (low+Kz).toNat*p2 (y.e+Ky).toNat*p2 Kx):=by grind
   _=_:=by rw[e1,e2];grind
 ·rw[hxv,ea,bgi x.s x.m]
  have e1:p2 (x.e+Kx).toNat*p2 (Ky+Kz)=p2 k.toNat*p2 g:=by rw[←QD,hg2,QD]
  calc sv x.s 1*(x.m:Int)*p2 (x.e+Kx).toNat*p2 (Ky+Kz)=sv x.s 1*(x.m:Int)*(p2 (x.e+Kx).toNat*p2 (Ky+Kz)):=by rw[Int.mul_assoc]
   _=_:=by rw[e1];grind
 ·have e0:((y.val Ky).natAbs:Int)=y.m*p2 (y.e+Ky).toNat:=by
   have hp:=aaX (y.e+Ky).toNat
   rw[hyv,Int.natAbs_mul,aS9,Int.natCast_mul,show(((p2 (y.e+Ky).toNat).natAbs:Nat):Int)=p2 (y.e+Ky).toNat by omega]
  rw[e0,eb,QD]
  have e1:p2 (y.e+Ky).toNat*(p2 (low+Kz).toNat*p2 Kx)=p2 (-k).toNat*p2 g:=by rw[←QD,←QD,←QD,←hg1];exact congrArg p2 (by omega)
  calc (y.m:Int)*p2 (y.e+Ky).toNat*(p2 (low+Kz).toNat*p2 Kx)=(y.m:Int)*(p2 (y.e+Ky).toNat*(p2 (low+Kz).toNat*p2 Kx)):=by rw[Int.mul_assoc]
   _=_:=by rw[e1];grind
theorem aF1{x y:ExV}{low:Int}{Kx Ky Kz:Nat}(hy0:y.m≠0)(hx: -(Kx:Int)≤x.e)(hy: -(Ky:Int)≤y.e)(hz: -(Kz:Int)≤low):
  (y.s=false→(x.over y low 3).val Kz*y.val Ky*p2 Kx≤x.val Kx*p2 (Ky+Kz)∧x.val Kx*p2 (Ky+Kz)≤(x.over y low 2).val Kz*y.val Ky*p2 Kx)∧
  (y.s=true→x.val Kx*p2 (Ky+Kz)≤(x.over y low 3).val Kz*y.val Ky*p2 Kx∧(x.over y low 2).val Kz*y.val Ky*p2 Kx≤x.val Kx*p2 (Ky+Kz)):=by
 obtain⟨a,b,f,hb,hf,e1,e2,e3⟩:=agx (mode:=3) hy0 hx hy hz
 obtain⟨a',b',f',hb',hf',e1',e2',e3'⟩:=agx (mode:=2) hy0 hx hy hz
 obtain⟨h1,h2, -, -⟩:=aJA (x.s != y.s) a b hb
 obtain⟨-, -,h3,h4⟩:=aJA (x.s != y.s) a' b' hb'
 rw[e1,e1']
 have m1:∀p q:Nat,p≤q→(p:Int)*f≤q*f:=fun p q h=>Int.mul_le_mul_of_nonneg_right (by omega) (by omega)
 have m2:∀p q:Nat,p≤q→(p:Int)*f'≤q*f':=fun p q h=>Int.mul_le_mul_of_nonneg_right (by omega) (by omega)
 generalize rq (x.s != y.s) a b 3*b=q at*
 generalize rq (x.s != y.s) a' b' 2*b'=q' at*
 cases hxs:x.s<;>cases hys:y.s<;>rw[hxs,hys]at h1 h2 h3 h4<;>rw[hxs]at e2 e2'<;>simp only[sv]at* <;>refine⟨fun h=>?_,fun h=>?_⟩<;>first|(cases h;done)|skip
 ·have:=m1 _ _ (h1 rfl);have:=m2 _ _ (h3 rfl)
  constructor
  ·rw[e2];simp;omega
  ·rw[e2'];simp;omega
 ·have:=m1 _ _ (h2 rfl);have:=m2 _ _ (h4 rfl)
  constructor
  ·rw[e2];simp;omega
  ·rw[e2'];simp;omega
 ·have:=m1 _ _ (h2 rfl);have:=m2 _ _ (h4 rfl)
  constructor
  ·rw[e2];simp;omega
  ·rw[e2'];simp;omega
 ·have:=m1 _ _ (h1 rfl);have:=m2 _ _ (h3 rfl)
  constructor
  ·rw[e2];simp;omega
  ·rw[e2'];simp;omega
end Go.Ab
namespace Go.Ab
theorem afk{a b c d x y m M:Int}(h1:a≤x)(h2:x≤b)(h3:c≤y)(h4:y≤d)(m1:m≤a*c)(m2:m≤a*d)(m3:m≤b*c)(m4:m≤b*d)(M1:a*c≤M)(M2:a*d≤M)(M3:b*c≤M)(M4:b*d≤M):m≤x*y∧x*y≤M:=by
 have key:∀e:Int,(a*e≤x*e∧x*e≤b*e)∨(b*e≤x*e∧x*e≤a*e):=fun e=>by
  rcases Int.le_total 0 e with h|h
  ·exact .inl ⟨Int.mul_le_mul_of_nonneg_right h1 h,Int.mul_le_mul_of_nonneg_right h2 h⟩
  ·exact .inr ⟨Int.mul_le_mul_of_nonpos_right h2 h,Int.mul_le_mul_of_nonpos_right h1 h⟩
 have kc:=key c
 have kd:=key d
 have ky:(x*c≤x*y∧x*y≤x*d)∨(x*d≤x*y∧x*y≤x*c):=by
  rcases Int.le_total 0 x with h|h
  ·exact .inl ⟨Int.mul_le_mul_of_nonneg_left h3 h,Int.mul_le_mul_of_nonneg_left h4 h⟩
  ·exact .inr ⟨Int.mul_le_mul_of_nonpos_left h h4,Int.mul_le_mul_of_nonpos_left h h3⟩
 omega
end Go.Ab
namespace Go.Ab
open Go Go.Proofs
/-! ### Rational points of intervals-/
theorem aa9{K:Nat}:∀(l:List ExV) (m:ExV), -(K:Int)≤m.e→eK K l→(l.foldl zq m).val K≤m.val K∧(∀x∈l,(l.foldl zq m).val K≤x.val K)∧ -(K:Int)≤(l.foldl zq m).e
 | [],m,hm,_=>⟨Int.le_refl _,(fun x hx=>by cases hx),hm⟩
 |y::l,m,hm,hl=>by
  have hy:=hl y (List.mem_cons_self ..)
  have hl':eK K l:=fun x hx=>hl x (List.mem_cons_of_mem _ hx)
  have h1:(zq m y).val K≤m.val K∧(zq m y).val K≤y.val K∧ -(K:Int)≤(zq m y).e:=by
   rcases Int.lt_or_le (y.val K) (m.val K)with g|g
   ·have e:zq m y=y:=by
     unfold zq
     rw[Zf hy hm,if_pos (by unfold zr;rw[if_pos g];decide)]
    rw[e];exact⟨Int.le_of_lt g,Int.le_refl _,hy⟩
   ·have e:zq m y=m:=by
     unfold zq
     rw[Zf hy hm,if_neg (by unfold zr;rw[if_neg (by omega)];split<;>omega)]
    rw[e];exact⟨Int.le_refl _,g,hm⟩
  obtain⟨g1,g2,g3⟩:=aa9 l (zq m y) h1.2.2 hl'
  refine⟨Int.le_trans g1 h1.1,fun x hx=>?_,g3⟩
  rcases List.mem_cons.1 hx with rfl|hx
  ·exact Int.le_trans g1 h1.2.1
  ·exact g2 x hx
theorem agB{K:Nat}:∀(l:List ExV) (m:ExV), -(K:Int)≤m.e→eK K l→m.val K≤(l.foldl zV m).val K∧(∀x∈l,x.val K≤(l.foldl zV m).val K)∧ -(K:Int)≤(l.foldl zV m).e
 | [],m,hm,_=>⟨Int.le_refl _,(fun x hx=>by cases hx),hm⟩
 |y::l,m,hm,hl=>by
  have hy:=hl y (List.mem_cons_self ..)
  have hl':eK K l:=fun x hx=>hl x (List.mem_cons_of_mem _ hx)
  have h1:m.val K≤(zV m y).val K∧y.val K≤(zV m y).val K∧ -(K:Int)≤(zV m y).e:=by
   rcases Int.lt_or_le (m.val K) (y.val K)with g|g
   ·have e:zV m y=y:=by
     unfold zV
     rw[Zf hy hm,if_pos (by unfold zr;rw[if_neg (by omega),if_pos g];decide)]
    rw[e];exact⟨Int.le_of_lt g,Int.le_refl _,hy⟩
   ·have e:zV m y=m:=by
     unfold zV
     rw[Zf hy hm,if_neg (by unfold zr;split<;>(try split)<;>omega)]
    rw[e];exact⟨Int.le_refl _,g,hm⟩
  obtain⟨g1,g2,g3⟩:=agB l (zV m y) h1.2.2 hl'
  refine⟨Int.le_trans h1.1 g1,fun x hx=>?_,g3⟩
  rcases List.mem_cons.1 hx with rfl|hx
  ·exact Int.le_trans h1.2.1 g1
  ·exact g2 x hx
theorem Q2{K:Nat}{l:List ExV}(h:eK K l):(∀x∈l,(qN l).val K≤x.val K)∧ -(K:Int)≤(qN l).e:=by
 cases l with
 |nil=>exact⟨(fun x hx=>by cases hx),by show-(K:Int)≤0;omega⟩
 |cons y l=>
  obtain⟨g1,g2,g3⟩:=aa9 (K:=K) l y (h y (List.mem_cons_self ..)) fun x hx=>h x (List.mem_cons_of_mem _ hx)
  refine⟨fun x hx=>?_,g3⟩
  rcases List.mem_cons.1 hx with rfl|hx
  ·exact g1
  ·exact g2 x hx
theorem Je{K:Nat}{l:List ExV}(h:eK K l):(∀x∈l,x.val K≤(zf l).val K)∧ -(K:Int)≤(zf l).e:=by
 cases l with
 |nil=>exact⟨(fun x hx=>by cases hx),by show-(K:Int)≤0;omega⟩
 |cons y l=>
  obtain⟨g1,g2,g3⟩:=agB (K:=K) l y (h y (List.mem_cons_self ..)) fun x hx=>h x (List.mem_cons_of_mem _ hx)
  refine⟨fun x hx=>?_,g3⟩
  rcases List.mem_cons.1 hx with rfl|hx
  ·exact g1
  ·exact g2 x hx
def SpV.eK(K:Nat)(s:SpV):Prop:= -(K:Int)≤s.lo.e∧ -(K:Int)≤s.hi.e
def inS(K:Nat)(s:SpV)(N D:Int):Prop:=s.lo.val K*D≤N∧N≤s.hi.val K*D
theorem aUN{K:Nat}{x:ExV}{D:Int}:inS K ⟨x,x⟩ (x.val K*D) D:=⟨Int.le_refl _,Int.le_refl _⟩
theorem times_eK{K K':Nat}{s t:SpV}(hs:s.eK K)(ht:t.eK K'):eK (K+K') (zw ExV.times s t):=fun x hx=>by
 obtain⟨a,b⟩:=hs
 obtain⟨c,d⟩:=ht
 simp only[zw,List.mem_cons,List.not_mem_nil,or_false]at hx
 rcases hx with rfl|rfl|rfl|rfl
 ·show _≤s.lo.e+t.lo.e;omega
 ·show _≤s.lo.e+t.hi.e;omega
 ·show _≤s.hi.e+t.lo.e;omega
 ·show _≤s.hi.e+t.hi.e;omega
theorem SpV.times_eK{K K':Nat}{s t:SpV}(hs:s.eK K)(ht:t.eK K'):(s.times t).eK (K+K'):=⟨(Q2 (Go.Ab.times_eK hs ht)).2,(Je (Go.Ab.times_eK hs ht)).2⟩
theorem asQ{K K':Nat}{s t:SpV}{N D N' D':Int}(hs:s.eK K)(ht:t.eK K')(hD:0<D)(hD':0<D')(h:inS K s N D)(h':inS K' t N' D'):inS (K+K') (s.times t) (N*N') (D*D'):=by
 have he:=Go.Ab.times_eK hs ht
 obtain⟨l1, -⟩:=Q2 he
 obtain⟨m1, -⟩:=Je he
 have hDD:0≤D*D':=Int.le_of_lt (Int.mul_pos hD hD')
 obtain⟨a,b⟩:=hs
 obtain⟨c,d⟩:=ht
 have f:∀x y:ExV, -(K:Int)≤x.e→ -(K':Int)≤y.e→(x.times y).val (K+K')*(D*D')=(x.val K*D)*(y.val K'*D'):=fun x y hx hy=>by
  rw[amW hx hy];grind
 have L:∀x∈zw ExV.times s t,(qN (zw ExV.times s t)).val (K+K')*(D*D')≤x.val (K+K')*(D*D'):=fun x hx=>Int.mul_le_mul_of_nonneg_right (l1 x hx) hDD
 have M:∀x∈zw ExV.times s t,x.val (K+K')*(D*D')≤(zf (zw ExV.times s t)).val (K+K')*(D*D'):=fun x hx=>Int.mul_le_mul_of_nonneg_right (m1 x hx) hDD
 have i1:s.lo.times t.lo∈zw ExV.times s t:=by simp[zw]
 have i2:s.lo.times t.hi∈zw ExV.times s t:=by simp[zw]
 have i3:s.hi.times t.lo∈zw ExV.times s t:=by simp[zw]
 have i4:s.hi.times t.hi∈zw ExV.times s t:=by simp[zw]
 have L1:=L _ i1
 have L2:=L _ i2
 have L3:=L _ i3
 have L4:=L _ i4
 have M1:=M _ i1
 have M2:=M _ i2
 have M3:=M _ i3
 have M4:=M _ i4
 rw[f _ _ a c]at L1 M1
 rw[f _ _ a d]at L2 M2
 rw[f _ _ b c]at L3 M3
 rw[f _ _ b d]at L4 M4
 exact afk h.1 h.2 h'.1 h'.2 L1 L2 L3 L4 M1 M2 M3 M4
theorem SpV.plus_eK{K:Nat}{s t:SpV}(hs:s.eK K)(ht:t.eK K):(s.plus t).eK K:=⟨yD hs.1 ht.1,yD hs.2 ht.2⟩
theorem aGI{K:Nat}{s t:SpV}{N N' D:Int}(hs:s.eK K)(ht:t.eK K)(h:inS K s N D)(h':inS K t N' D):inS K (s.plus t) (N+N') D:=by
 obtain⟨a,b⟩:=h
 obtain⟨c,d⟩:=h'
 constructor
 ·show(s.lo.plus t.lo).val K*D≤_
  rw[jw hs.1 ht.1,Int.add_mul];omega
 ·show _≤(s.hi.plus t.hi).val K*D
  rw[jw hs.2 ht.2,Int.add_mul];omega
theorem asR{K:Nat}{s:SpV}{N D:Int}(hs:s.eK K):inS K s.can N D↔inS K s N D:=by
 unfold inS
 rw[show s.can.lo=s.lo.can from rfl,show s.can.hi=s.hi.can from rfl,yq hs.1,yq hs.2]
theorem SpV.can_eK{K:Nat}{s:SpV}(hs:s.eK K):s.can.eK K:=⟨aZD hs.1 (by omega),aZD hs.2 (by omega)⟩
theorem aJP{K:Nat}{s:SpV}{N D:Int}(hD:0<D)(h:inS K s N D):s.lo.val K≤s.hi.val K:=Int.le_of_mul_le_mul_right (Int.le_trans h.1 h.2) hD
theorem abZ{K j:Nat}{x y:ExV}(hx: -(K:Int)≤x.e)(hy: -(K:Int)≤y.e):x.val K≤y.val K↔x.val (K+j)≤y.val (K+j):=by
 rw[agj hx,agj hy]
 have hp:(0:Int)<2^j:=aaX j
 exact⟨fun h=>Int.mul_le_mul_of_nonneg_right h (Int.le_of_lt hp),fun h=>Int.le_of_mul_le_mul_right h hp⟩
theorem arI{K:Nat}{s:SpV}(hK:3000≤K)(hs:s.eK K)(h:s.lo.val K≤s.hi.val K):s.tel.ok=true:=by
 unfold SpV.tel
 split
 ·rename_i hf
  have hf:(s.lo.fit&&s.hi.fit)=true:=hf
  rw[Bool.and_eq_true]at hf
  have o1:=ag4 hf.1
  have o2:=ag4 hf.2
  show(s.lo.can.ok&&(s.hi.can.ok&&decide (s.lo.can.val 3000≤s.hi.can.val 3000)))=true
  rw[o1,o2,Bool.true_and,Bool.true_and]
  refine decide_eq_true ((abZ (j:=K-3000) (z8 o1).1.1 (z8 o2).1.1).2 ?_)
  rw[show 3000+(K-3000)=K by omega,yq hs.1,yq hs.2]
  exact h
 ·decide+kernel
theorem Qx{s:SpV}(h:s.ok=true):s.eK 3000∧s.lo.val 3000≤s.hi.val 3000∧s.lo.ok=true∧s.hi.ok=true:=by
 have h:(s.lo.ok&&(s.hi.ok&&decide (s.lo.val 3000≤s.hi.val 3000)))=true:=h
 simp only[Bool.and_eq_true,decide_eq_true_eq]at h
 exact⟨⟨(z8 h.1).1.1,(z8 h.2.1).1.1⟩,h.2.2,h.1,h.2.1⟩
end Go.Ab
namespace Go.Ab
open Go Go.Proofs
/-! ### Matrices of intervals-/
structure imatV(n:Nat)(S:List SpV):Prop where
 n1:1≤n
 n4:n≤4
 len:S.length=n*n
 ok:∀s∈S,s.ok=true
theorem imatV.l16{n:Nat}{S:List SpV}(h:imatV n S):S.length≤16:=by rw[h.len];exact Qe h.n4
theorem imatV.bd{n:Nat}{S:List SpV}(h:imatV n S):sbd (-3000) 4600 S:=fun s hs=>ae8 (h.ok s hs)
def XL(k:Int)(M:List IvV):Bool:=(decide (1≤k)&&decide (k≤4))&&(decide ((M.length:Int)=k*k)&&M.all ivB)
theorem zY(n:Int)(l:List IvV)(hl:l.length≤1000)(hx:∀v∈l,Y4 v):Con Tryz.prog 87 true [.ag [.v (.int .i64 n),.sl l.length (qm IvV.cs l)]] [] (isA (.v (.bool (XL n l)))):=by
 unfold XL
 cases h1:(decide (1≤n)&&decide (n≤4))
 ·rw[Bool.false_and]
  refine Con.of_w (rs:=[.tmp 2]) Tryz.func87 rfl Tryz.ntmps87 rfl ?_
  simp(disch:=omega)only[go_sem]
  refine qb (zj n 1 4) ?_
  simp(disch:=omega)only[go_sem]
  simp(disch:=omega)only[go_sem,h1]
  exact qu
 ·rw[Bool.true_and]
  have h1':1≤n∧n≤4:=by simpa using h1
  have hq:0≤n*n∧n*n≤16:=⟨Int.mul_nonneg (by omega) (by omega),Int.mul_le_mul h1'.2 h1'.2 (by omega) (by omega)⟩
  cases h2:decide ((l.length:Int)=n*n)
  ·rw[Bool.false_and]
   refine Con.of_w (rs:=[.tmp 2]) Tryz.func87 rfl Tryz.ntmps87 rfl ?_
   simp(disch:=omega)only[go_sem]
   refine qb (zj n 1 4) ?_
   simp(disch:=omega)only[go_sem]
   simp(disch:=omega)only[go_sem,h1,h2]
   exact qu
  ·rw[Bool.true_and]
   refine Con.of_w (rs:=[.tmp 2]) Tryz.func87 rfl Tryz.ntmps87 rfl ?_
   simp(disch:=omega)only[go_sem]
   refine qb (zj n 1 4) ?_
   simp(disch:=omega)only[go_sem]
   simp(disch:=omega)only[go_sem,h1,h2]
   refine qb (amp l hl hx) ?_
   simp(disch:=omega)only[go_sem]
   exact qu
theorem Z5(S:List SpV):qm IvV.cs (S.map SpV.iv)=qm SpV.cs S:=by unfold qm;rw[List.map_map];rfl
theorem aP3{k:Int}{M:List IvV}(h:XL k M=true):∃(n:Nat) (S:List SpV),k=n∧M=S.map SpV.iv∧imatV n S:=by
 simp only[XL,Bool.and_eq_true,decide_eq_true_eq,List.all_eq_true]at h
 obtain⟨⟨h1,h2⟩,h3,h4⟩:=h
 obtain⟨n,rfl⟩:=Int.eq_ofNat_of_zero_le (show 0≤k by omega)
 have hm:M=(M.map IvV.sp).map SpV.iv:=by
  rw[List.map_map]
  conv=>lhs;rw[←List.map_id M]
  refine List.map_congr_left fun v hv=>?_
  obtain⟨s,e, -⟩:=aUM (h4 v hv)
  show v=(IvV.sp v).iv
  rw[e]
  show s.iv=SpV.iv ⟨s.lo.dyv.ex,s.hi.dyv.ex⟩
  rw[afw,afw]
 refine⟨n,M.map IvV.sp,rfl,hm,by omega,by omega,?_,fun s hs=>?_⟩
 ·rw[List.length_map];exact_mod_cast h3
 ·obtain⟨v,hv,rfl⟩:=List.mem_map.1 hs
  have hb:=h4 v hv
  obtain⟨s,e,ho⟩:=aUM hb
  rw[e]
  show SpV.ok ⟨s.lo.dyv.ex,s.hi.dyv.ex⟩=true
  rw[afw,afw];exact ho
theorem abf{n:Nat}{S:List SpV}(h:imatV n S):XL n (S.map SpV.iv)=true:=by
 unfold XL
 simp only[Bool.and_eq_true,decide_eq_true_eq,List.all_eq_true]
 refine⟨⟨by have:=h.n1;omega,by have:=h.n4;omega⟩,by rw[List.length_map,h.len,Int.natCast_mul],fun v hv=>?_⟩
 obtain⟨s,hs,rfl⟩:=List.mem_map.1 hv
 rw[aJO];exact h.ok s hs
theorem Jn{n:Nat}{S:List SpV}(h:imatV n S):∀v∈S.map SpV.iv,Y4 v:=fun v hv=>by
 obtain⟨s,hs,rfl⟩:=List.mem_map.1 hv
 exact asz (h.ok s hs)
theorem zy(n:Nat)(S:List SpV)(h:imatV n S):Con Tryz.prog 87 true [.ag [.v (.int .i64 (n)),.sl (S).length (qm SpV.cs (S))]] [] (isA (.v (.bool true))):=by
 have c:=zY n (S.map SpV.iv) (by rw[List.length_map];have:=h.l16;omega) (Jn h)
 rw[abf h,Z5,List.length_map]at c
 exact c
set_option maxRecDepth 100000 in
theorem zF(n:Int)(l:List SpV)(hl:l.length≤1000):Con Tryz.prog 81 false [.ag [.v (.int .i64 (n)),.sl (l).length (qm SpV.cs (l))]] [] (isA (.ag [.v (.int .i64 (n)),.sl (l).length (qm SpV.cs (l))])):=by
 refine Con.frzA ?_
 refine Con.of_aw Tryz.func81 rfl Tryz.ntmps81 (by simp) (by simp) (by simp) (W.sound ?_)
 show @W Tryz.prog 25 ⟨_⟩ ⟨fun x σ=>@qU _ _ _ ⟨_⟩ _ ⟨_⟩ x σ⟩ _ _
 simp(disch:=omega)only[go_sem]
 refine qj (fun i:Nat=>[(10,.sl l.length (qm SpV.cs l)),(11,.v (.int .i64 l.length)),(12,.v (.int .i64 i)),(3,.pt 0 0),(2,.pt 2 0)])
  (fun i=>[(0,.own 0 [.v (.int .i64 n),.rf 1 0 i]),(1,.own 6 (qm SpV.cs (mpT l (id) i))),(2,.own 0 [.v (.int .i64 0),.v (.slice none 0 0)])]) (fun i=>i≤l.length) (fun i=>l.length-i) 0 (by omega)
  ((Le.ghostC 50000000 1 1 6 (zo:=0) (cs:=[.v (.int .i64 n),.v (.slice none 0 0)]) (by simp(disch:=omega)only[go_sem]) rfl (by simp(disch:=omega)only[go_sem])).trans (Le.lst [(0,50000000),(2,40000000)] _ _ rfl (by simp(disch:=omega)only[go_sem]) (by simp(disch:=omega)only[go_sem,jx,Qf,List.set_cons_succ,List.set_cons_zero]))) ?_
 intro i hi
 simp(disch:=omega)only[go_sem]
 refine qg (fun h1=>?_) (fun h1=>?_)
 ·have hi2:i<l.length:=by omega
  have hci:=jr hi2
  have hcut:=zG (zE (F:=id) hi)
  have hml:=zE (F:=id) hi
  have hs:=jy (F:=id) sp0 hi2
  generalize l.getD i sp0=x at*
  simp(disch:=omega)only[go_sem,h1,hci]
  refine⟨by omega,by omega,?_⟩
  refine qo rfl [⟨0,[],[]⟩,⟨1,[],[]⟩,⟨2,[1],[]⟩,⟨3,[1],[]⟩,⟨4,[1],[]⟩,⟨5,[],[]⟩,⟨6,[],[]⟩,⟨7,[],[]⟩] (by kernel_rfl) ?_
  simp(disch:=omega)only[go_sem]
  refine qa (yb x) ?_
  simp(disch:=omega)only[go_sem]
  simp(disch:=omega)only[go_sem,hcut,yR]
  refine⟨⟨by rw[hml];exact Nat.le_refl _,by omega⟩,qc (i+1) [(1,230000000)] (by show i+1≤_;omega) (by show l.length-(i+1)<l.length-i;omega) rfl (by simp(disch:=omega)only[go_sem];try omega) (by simp(disch:=omega)only[go_sem,hs,id_eq])⟩
 ·simp(disch:=omega)only[go_sem,h1]
  obtain rfl:i=l.length:=by omega
  refine qi [(0,1)] [.own 6 (qm SpV.cs (mpT l (id) l.length))] [] [.ag [.v (.int .i64 n),.rf 0 0 l.length]] rfl (by simp(disch:=omega)only[go_sem]) (by simp(disch:=omega)only[go_sem]) (by simp) (by simp) ?_
  show qG _ 6 _=_
  simp(disch:=omega)only[go_sem,ze,yl,zG (l:=l.map (id)) (k:=l.length) (List.length_map ..),List.map_id,zG (l:=l) (k:=l.length) rfl]
def fN(n:Nat)(l:List SpV):Nat:=if l.all SpV.fit=true then n else 0
def fT(l:List SpV):List SpV:=if l.all SpV.fit=true then l.map SpV.can else []
theorem jG(n:Nat)(l:List SpV)(hl:l.length≤1000)(hb:sbd (-400000) 400000 l):Con Tryz.prog 72 false [.ag [.v (.int .i64 (n)),.sl (l).length (qm SpV.cs (l))]] [] (isA (.tu [.ag [.v (.int .i64 (fN n l)),.sl (fT l).length (qm SpV.cs (fT l))],.v (.bool (l.all SpV.fit))])):=by
 have c:=abz n l hl hb
 unfold fN fT
 cases h:l.all SpV.fit
 ·rw[h,if_neg (by simp)]at c
  rw[if_neg (by simp),if_neg (by simp)]
  exact c
 ·rw[h,if_pos rfl]at c
  rw[if_pos rfl,if_pos rfl,List.length_map]
  exact c
theorem aZb{n K:Nat}{l:List SpV}(hK:3000≤K)(h1:1≤n)(h4:n≤4)(hl:l.length=n*n)(he:∀s∈l,s.eK K∧s.lo.val K≤s.hi.val K)(h:l.all SpV.fit=true):fN n l=n∧fT l=l.map SpV.can∧imatV n (l.map SpV.can):=by
 refine⟨if_pos h,if_pos h,h1,h4,by rw[List.length_map];exact hl,fun s hs=>?_⟩
 obtain⟨t,ht,rfl⟩:=List.mem_map.1 hs
 have:=arI hK (he t ht).1 (he t ht).2
 rw[show t.tel=t.can from if_pos (List.all_eq_true.1 h t ht)]at this
 exact this
theorem jT(n n':Nat)(S S':List SpV)(h:imatV n S)(h':imatV n' S'):Con Tryz.prog 80 true [.ag [.v (.int .i64 (n)),.sl (S).length (qm SpV.cs (S))],.ag [.v (.int .i64 (n')),.sl (S').length (qm SpV.cs (S'))]] [] (isA (.v (.bool (decide (n=n'))))):=by
 refine Con.of_aw Tryz.func80 rfl Tryz.ntmps80 (by simp) (by simp) (by simp) (W.sound ?_)
 show @W Tryz.prog 18 ⟨_⟩ ⟨fun x σ=>@qU _ _ _ ⟨_⟩ _ ⟨_⟩ x σ⟩ _ _
 simp(disch:=omega)only[go_sem]
 refine qb (zy n S h) ?_
 simp(disch:=omega)only[go_sem]
 refine qb (zy n' S' h') ?_
 simp(disch:=omega)only[go_sem]
 refine qy (by simp(disch:=omega)only[go_sem]) (by simp(disch:=omega)only[go_sem]) ⟨?_,rfl,rfl⟩
 show AV.v (.bool _)=AV.v (.bool _)
 congr 2
 exact decide_eq_decide.2 ⟨fun h=>by omega,fun h=>by omega⟩
def bax(k:Int)(M:List IvV)(k':Int)(M':List IvV):Bool:=XL k M&&(XL k' M'&&decide (k=k'))
theorem Qa(k k':Int)(M M':List IvV)(h1:M.length≤16)(h2:∀v∈M,Y4 v)(h3:M'.length≤16)(h4:∀v∈M',Y4 v):
  Con Tryz.prog 80 true [.ag [.v (.int .i64 k),.sl M.length (qm IvV.cs M)],.ag [.v (.int .i64 k'),.sl M'.length (qm IvV.cs M')]] [] (isA (.v (.bool (bax k M k' M')))):=by
 unfold bax
 have c1:=zY k M (by omega) h2
 have c2:=zY k' M' (by omega) h4
 generalize XL k M=b1 at*
 generalize XL k' M'=b2 at*
 cases b1
 ·refine Con.of_w (rs:=[.tmp 4]) Tryz.func80 rfl Tryz.ntmps80 rfl ?_
  simp(disch:=omega)only[go_sem]
  refine qb (c1) ?_
  simp(disch:=omega)only[go_sem]
  exact qu
 cases b2
 ·refine Con.of_w (rs:=[.tmp 4]) Tryz.func80 rfl Tryz.ntmps80 rfl ?_
  simp(disch:=omega)only[go_sem]
  refine qb (c1) ?_
  simp(disch:=omega)only[go_sem]
  refine qb (c2) ?_
  simp(disch:=omega)only[go_sem]
  exact qu
 ·refine Con.of_w (rs:=[.tmp 4]) Tryz.func80 rfl Tryz.ntmps80 rfl ?_
  simp(disch:=omega)only[go_sem]
  refine qb (c1) ?_
  simp(disch:=omega)only[go_sem]
  refine qb (c2) ?_
  simp(disch:=omega)only[go_sem]
  exact qu
theorem ata{S S':List SpV}{lo hi:Int}(hl:S'.length=S.length)(hb:sbd lo hi S)(hb':sbd lo hi S'):sbd lo (hi+1) (yp S S'):=fun x hx=>by
 unfold yp at hx
 obtain⟨i,hi,rfl⟩:=List.mem_map.1 hx
 have hi:=List.mem_range.1 hi
 exact SpV.plus_bd (jf hb hi) (jf hb' (by omega))
theorem XB(n:Nat)(S S':List SpV)(h:imatV n S)(h':imatV n S'):Con Tryz.prog 107 false [.ag [.v (.int .i64 (n)),.sl (S).length (qm SpV.cs (S))],.ag [.v (.int .i64 (n)),.sl (S').length (qm SpV.cs (S'))]] [] (isA (.tu [.ag [.v (.int .i64 (fN n (yp S S'))),.sl (fT (yp S S')).length (qm SpV.cs (fT (yp S S')))],.v (.bool ((yp S S').all SpV.fit))])):=by
 refine Con.frzA ?_
 have ca:=jT n n S S' h h'
 rw[decide_eq_true rfl]at ca
 have l1:=h.l16
 have l2:=h'.l16
 have hll:S'.length=S.length:=by rw[h.len,h'.len]
 have co:=abD n S S' (by omega) hll (zk h.bd (by omega) (by omega)) (zk h'.bd (by omega) (by omega))
 have cm:=jG n (yp S S') (by rw[Ju];omega) (zk (ata hll h.bd h'.bd) (by omega) (by omega))
 generalize yp S S'=y at*
 refine Con.of_w (rs:=[.cell 4 30,.tmp 5]) Tryz.func107 rfl Tryz.ntmps107 rfl ?_
 simp(disch:=omega)only[go_sem]
 refine qb (ca) ?_
 simp(disch:=omega)only[go_sem]
 refine qo rfl [⟨0,[],[]⟩,⟨2,[0],[]⟩,⟨1,[2],[]⟩,⟨3,[],[]⟩,⟨4,[],[]⟩,⟨5,[],[]⟩,⟨6,[],[]⟩,⟨7,[],[]⟩,⟨8,[],[]⟩,⟨9,[],[]⟩] (by kernel_rfl) ?_
 simp(disch:=omega)only[go_sem]
 refine qa (zF n S (by omega)) ?_
 simp(disch:=omega)only[go_sem]
 refine qa (zF n S' (by omega)) ?_
 simp(disch:=omega)only[go_sem]
 refine qa (co) ?_
 simp(disch:=omega)only[go_sem]
 refine qa (cm) ?_
 simp(disch:=omega)only[go_sem]
 exact ql
theorem at5(k k':Int)(M M':List IvV)(h1:M.length≤16)(h2:∀v∈M,Y4 v)(h3:M'.length≤16)(h4:∀v∈M',Y4 v)(h:bax k M k' M'=false):
  Con Tryz.prog 107 false [.ag [.v (.int .i64 k),.sl M.length (qm IvV.cs M)],.ag [.v (.int .i64 k'),.sl M'.length (qm IvV.cs M')]] [] (isA (.tu [.ag [.v (.int .i64 0),.sl 0 []],.v (.bool false)])):=by
 refine Con.frzA ?_
 have ca:=Qa k k' M M' h1 h2 h3 h4
 rw[h]at ca
 refine Con.of_w (rs:=[.cell 4 30,.tmp 5]) Tryz.func107 rfl Tryz.ntmps107 rfl ?_
 simp(disch:=omega)only[go_sem]
 refine qb (ca) ?_
 simp(disch:=omega)only[go_sem]
 exact ql
theorem alV{n:Nat}{S S':List SpV}(h:imatV n S)(h':imatV n S'):sbd (-6000) 9204 (qE n S S'):=fun x hx=>by
 unfold qE gly at hx
 obtain⟨t,ht,rfl⟩:=List.mem_map.1 hx
 have ht:=List.mem_range.1 ht
 have h0:=h.n1
 have hj:=Nat.mod_lt t (show 0<n by omega)
 have hi:t/n<n:=(Nat.div_lt_iff_lt_mul (by omega)).2 ht
 have:=agu (k:=n) hi hj (Nat.le_refl n) h.len h'.len h.bd h'.bd (by omega)
 exact SpV.bd.mono this (by omega) (by have:=h.n4;omega)
theorem zp(n:Nat)(S S':List SpV)(h:imatV n S)(h':imatV n S'):Con Tryz.prog 17 false [.ag [.v (.int .i64 (n)),.sl (S).length (qm SpV.cs (S))],.ag [.v (.int .i64 (n)),.sl (S').length (qm SpV.cs (S'))]] [] (isA (.tu [.ag [.v (.int .i64 (fN n (qE n S S'))),.sl (fT (qE n S S')).length (qm SpV.cs (fT (qE n S S')))],.v (.bool ((qE n S S').all SpV.fit))])):=by
 refine Con.frzA ?_
 have ca:=jT n n S S' h h'
 rw[decide_eq_true rfl]at ca
 have l1:=h.l16
 have l2:=h'.l16
 have hq:=Qe h.n4
 have co:=YA n S S' h.n4 h.len h'.len (zk h.bd (by omega) (by omega)) (zk h'.bd (by omega) (by omega))
 have cm:=jG n (qE n S S') (by unfold qE;rw[Qn];omega) (zk (alV h h') (by omega) (by omega))
 generalize qE n S S'=y at*
 refine Con.of_w (rs:=[.cell 4 30,.tmp 5]) Tryz.func17 rfl Tryz.ntmps17 rfl ?_
 simp(disch:=omega)only[go_sem]
 refine qb (ca) ?_
 simp(disch:=omega)only[go_sem]
 refine qo rfl [⟨0,[],[]⟩,⟨2,[0],[]⟩,⟨1,[2],[]⟩,⟨3,[],[]⟩,⟨4,[],[]⟩,⟨5,[],[]⟩,⟨6,[],[]⟩,⟨7,[],[]⟩,⟨8,[],[]⟩,⟨9,[],[]⟩] (by kernel_rfl) ?_
 simp(disch:=omega)only[go_sem]
 refine qa (zF n S (by omega)) ?_
 simp(disch:=omega)only[go_sem]
 refine qa (zF n S' (by omega)) ?_
 simp(disch:=omega)only[go_sem]
 refine qa (co) ?_
 simp(disch:=omega)only[go_sem]
 refine qa (cm) ?_
 simp(disch:=omega)only[go_sem]
 exact ql
theorem JJ(k k':Int)(M M':List IvV)(h1:M.length≤16)(h2:∀v∈M,Y4 v)(h3:M'.length≤16)(h4:∀v∈M',Y4 v)(h:bax k M k' M'=false):
  Con Tryz.prog 17 false [.ag [.v (.int .i64 k),.sl M.length (qm IvV.cs M)],.ag [.v (.int .i64 k'),.sl M'.length (qm IvV.cs M')]] [] (isA (.tu [.ag [.v (.int .i64 0),.sl 0 []],.v (.bool false)])):=by
 refine Con.frzA ?_
 have ca:=Qa k k' M M' h1 h2 h3 h4
 rw[h]at ca
 refine Con.of_w (rs:=[.cell 4 30,.tmp 5]) Tryz.func17 rfl Tryz.ntmps17 rfl ?_
 simp(disch:=omega)only[go_sem]
 refine qb (ca) ?_
 simp(disch:=omega)only[go_sem]
 exact ql
theorem Xy(n:Nat)(S:List SpV)(h:imatV n S):Con Tryz.prog 37 false [.ag [.v (.int .i64 (n)),.sl (S).length (qm SpV.cs (S))]] [] (isA (.tu [.ag [.v (.int .i64 (gN n (S.map y4))),.sl (gT (S.map y4)).length (qm ExV.cs (gT (S.map y4)))],.v (.bool ((S.map y4).all ExV.fit))])):=by
 refine Con.frzA ?_
 have l1:=h.l16
 have co:=atF n S (by omega) (zk h.bd (by omega) (by omega))
 have cm:=aHO n (S.map y4) (by rw[List.length_map];omega) (fun x hx=>by
  obtain⟨s,hs,rfl⟩:=List.mem_map.1 hx
  exact(asq (h.bd s hs)).mono (by omega) (by omega))
 generalize S.map y4=y at*
 refine Con.of_w (rs:=[.cell 2 25,.tmp 3]) Tryz.func37 rfl Tryz.ntmps37 rfl ?_
 simp(disch:=omega)only[go_sem]
 refine qb (zy n S h) ?_
 simp(disch:=omega)only[go_sem]
 refine qa (zF n S (by omega)) ?_
 simp(disch:=omega)only[go_sem]
 refine qa (co) ?_
 simp(disch:=omega)only[go_sem]
 refine qa (cm) ?_
 simp(disch:=omega)only[go_sem]
 exact ql
def alP(S:List SpV)(L:List ExV)(k:Nat):Bool:=(List.range k).all fun i=>arM (S.getD i sp0) (L.getD i ex0)
theorem qR(n:Nat)(S:List SpV)(L:List ExV)(h:imatV n S)(hL:matV n L):Con Tryz.prog 20 true [.ag [.v (.int .i64 (n)),.sl (S).length (qm SpV.cs (S))],.ag [.v (.int .i64 (n)),.sl (L).length (qm ExV.cs (L))]] [] (isA (.v (.bool (alP S L (n*n))))):=by
 have l1:=h.l16
 have hS:=h.len
 have hLl:=hL.len
 refine Con.of_w (rs:=[.tmp 4]) Tryz.func20 rfl Tryz.ntmps20 rfl ?_
 simp(disch:=omega)only[go_sem]
 refine qb (zy n S h) ?_
 simp(disch:=omega)only[go_sem]
 refine qb (YC n L hL) ?_
 simp(disch:=omega)only[go_sem]
 refine qj (fun i:Nat=>[(2,.pt 2 0),(3,.pt 3 0),(4,.v (.bool false)),(23,.sl L.length (qm ExV.cs L)),(24,.v (.int .i64 L.length)),(25,.v (.int .i64 i))])
  (fun _=>[(2,.own 0 [.v (.int .i64 n),.sl S.length (qm SpV.cs S)]),(3,.own 0 [.v (.int .i64 n),.sl L.length (qm ExV.cs L)])]) (fun i=>i≤L.length∧∀j,j<i→arM (S.getD j sp0) (L.getD j ex0)=true) (fun i=>L.length-i) 0 ⟨by omega,fun j hj=>by omega⟩
  (Le.lst [(2,40000000),(3,50000000)] _ _ rfl (by simp(disch:=omega)only[go_sem]) (by simp(disch:=omega)only[go_sem])) ?_
 rintro i ⟨hi,hp⟩
 simp(disch:=omega)only[go_sem]
 refine qg (fun h1=>?_) (fun h1=>?_)
 ·have hi2:i<L.length:=by omega
  have hci:=jr (l:=S) (i:=i) (by omega)
  have hcx:=zW (l:=L) (i:=i) hi2
  have os:=h.ok (S.getD i sp0) (by rw[List.getD_eq_getElem?_getD,List.getElem?_eq_getElem (by omega)];exact List.getElem_mem _)
  have ox:=hL.ok (L.getD i ex0) (by rw[List.getD_eq_getElem?_getD,List.getElem?_eq_getElem hi2];exact List.getElem_mem _)
  have hno:arM (S.getD i sp0) (L.getD i ex0)=false→alP S L (n*n)=false:=fun hf=>by
   unfold alP
   rw[List.all_eq_false]
   exact⟨i,List.mem_range.2 (by omega),by rw[hf];simp⟩
  have hnx:arM (S.getD i sp0) (L.getD i ex0)=true→∀j,j<i+1→arM (S.getD j sp0) (L.getD j ex0)=true:=fun hf j hj=>by
   rcases(by omega:j<i∨j=i)with h'|rfl
   ·exact hp j h'
   ·exact hf
  have ch:=atw (S.getD i sp0) (L.getD i ex0) os ox
  change Con _ _ _ _ _ (isA (.v (.bool (arM (S.getD i sp0) (L.getD i ex0)))))at ch
  generalize arM (S.getD i sp0) (L.getD i ex0)=b at*
  generalize S.getD i sp0=s at*
  generalize L.getD i ex0=x at*
  simp(disch:=omega)only[go_sem,h1,hcx]
  refine⟨by omega,by omega,?_⟩
  refine qo rfl [⟨0,[],[]⟩,⟨1,[],[]⟩,⟨2,[1],[]⟩,⟨3,[],[]⟩,⟨4,[],[]⟩,⟨6,[1,4],[]⟩,⟨5,[6],[]⟩,⟨7,[],[]⟩,⟨8,[],[]⟩,⟨9,[],[]⟩] (by kernel_rfl) ?_
  simp(disch:=omega)only[go_sem,hci]
  refine⟨by omega,by omega,?_⟩
  refine qa (yb s) ?_
  simp(disch:=omega)only[go_sem]
  refine qa (zX x.s x.m x.e) ?_
  simp(disch:=omega)only[go_sem]
  refine qb (ch) ?_
  simp(disch:=omega)only[go_sem]
  cases b
  ·rw[hno rfl]
   simp(disch:=omega)only[go_sem]
   exact qu
  ·simp(disch:=omega)only[go_sem]
   exact qc (i+1) [] ⟨by omega,hnx rfl⟩ (by show L.length-(i+1)<L.length-i;omega) rfl (by simp(disch:=omega)only[go_sem];try omega) (by simp(disch:=omega)only[go_sem])
 ·have hall:alP S L (n*n)=true:=by
   unfold alP
   exact List.all_eq_true.2 fun j hj=>hp j (by have:=List.mem_range.1 hj;omega)
  rw[hall]
  simp(disch:=omega)only[go_sem,h1]
  exact qu
end Go.Ab
namespace Go.Ab
open Go
section
variable {σ:St}
end
end Go.Ab
namespace Go.Ab
open Go
theorem aFz{L:List SpV}{k:Nat}{x:SpV}:wr (qm SpV.cs L++zS (k+1) z6) (L.length*6) [.v (.bool x.lo.s),.sl (lim x.lo.m).length (qe (lim x.lo.m)),.v (.int .i64 x.lo.e),.v (.bool x.hi.s),.sl (lim x.hi.m).length (qe (lim x.hi.m)),.v (.int .i64 x.hi.e)]=qm SpV.cs (L++[x])++zS k z6:=agw arK rfl x
theorem aGF{x v:IvV}{L:List IvV}:wr (qm IvV.cs (x::L)) 0 [.v (.bool v.lo.s),.sl v.lo.xs.length (qe v.lo.xs),.v (.int .i64 v.lo.e),.v (.bool v.hi.s),.sl v.hi.xs.length (qe v.hi.xs),.v (.int .i64 v.hi.e)]=qm IvV.cs (v::L):=aFK abe (y:=v)
theorem aaN{L:List SpV}{i:Nat}(hi:i<L.length):qm SpV.cs L=(qm SpV.cs (L.take i)++(L.getD i sp0).lo.cs)++(L.getD i sp0).hi.cs++qm SpV.cs (L.drop (i+1))∧(qm SpV.cs (L.take i)++(L.getD i sp0).lo.cs).length=i*6+3:=by
 have e:L=L.take i++[L.getD i sp0]++L.drop (i+1):=by
  rw[List.getD_eq_getElem?_getD,List.getElem?_eq_getElem hi,Option.getD_some,List.append_assoc,List.singleton_append,List.getElem_cons_drop,List.take_append_drop]
 constructor
 ·conv=>lhs;rw[e]
  rw[←yk,←yk,q6,jN,List.append_nil]
  show _++((L.getD i sp0).lo.cs++(L.getD i sp0).hi.cs)++_=_
  rw[←List.append_assoc]
 ·rw[List.length_append,YP,List.length_take,Nat.min_eq_left (by omega),Jv]
theorem aTd{L:List SpV}{i:Nat}(hi:i<L.length):cut (qm SpV.cs L) (i*6+3) 3=[.v (.bool (L.getD i sp0).hi.s),.sl (lim (L.getD i sp0).hi.m).length (qe (lim (L.getD i sp0).hi.m)),.v (.int .i64 (L.getD i sp0).hi.e)]:=by
 obtain⟨h1,h2⟩:=aaN hi
 rw[h1,←h2]
 unfold cut
 rw[List.append_assoc,List.drop_left',List.take_left' (Jv _)]
 ·rfl
 ·rfl
theorem arH{L:List SpV}{i:Nat}{y:ExV}(hi:i<L.length):wr (qm SpV.cs L) (i*6+3) [.v (.bool y.s),.sl (lim y.m).length (qe (lim y.m)),.v (.int .i64 y.e)]=qm SpV.cs (L.set i ⟨(L.getD i sp0).lo,y⟩):=by
 obtain⟨h1,h2⟩:=aaN hi
 rw[h1,ZR _ _ _ _ (by rw[List.length_append,h2,Jv];exact Nat.le_refl _),←h2,yz _ _ _ (by rw[Jv];rfl),List.set_eq_take_append_cons_drop,if_pos hi,←yk,q6]
 show _++y.cs++_=_++(((L.getD i sp0).lo.cs++y.cs)++_)
 simp only[List.append_assoc]
end Go.Ab
namespace Go.Ab
open Go
section
variable {P:Program}{N:Nat}{Q:Exit→St→Prop}{σ:St}
theorem AW.seqEx{X:Type}{x y:Code}{I:X→Prop}{E:X→List (Nat×AV)}{H:X→List (Nat×Ob)}(hx:AW P N x (fun ex σ'=>ex=.normal∧∃a,I a∧Le σ' ⟨ofL .un (E a),ofH (H a)⟩) σ)(hy:∀a,I a→AW P N y Q ⟨ofL .un (E a),ofH (H a)⟩):AW P N (.seq x y) Q σ:=
 AW.seq (hx.mono fun ex σ' ⟨he,a,ha,hl⟩=>by subst he;exact AW.le hl (hy a ha))
end
end Go.Ab
namespace Go.Ab
open Go Go.Proofs
/-! ### Drawn matrices of intervals-/
theorem ami(n:Nat)(hn:n≤4):Con Tryz.prog 229 false [.v (.int .i64 n)] [] (fun r hs bs=>r=.ag [.v (.int .i64 n),.rf 0 0 (n*n)]∧hs=[.own 6 (zS (n*n) z6)]):=by
 have hq:=Qe hn
 have hz:((n:Int)*n).toNat=n*n:=by rw[←Int.natCast_mul];rfl
 have hz2:(n:Int)*n=((n*n:Nat):Int):=(Int.natCast_mul n n).symm
 refine Con.of_aw Tryz.func229 rfl Tryz.ntmps229 (by simp) (by simp) (by simp) (W.sound ?_)
 show @W Tryz.prog 9 ⟨_⟩ ⟨fun x σ=>@qU _ _ _ ⟨_⟩ _ ⟨_⟩ x σ⟩ _ _
 simp(disch:=omega)only[go_sem]
 rw[hz]
 refine⟨by rw[hz2];omega,qi [(0,90000000)] [.own 6 (zS (n*n) z6)] [] [.ag [.v (.int .i64 n),.rf 0 0 (n*n)]] rfl (by simp(disch:=omega)only[go_sem]) (by simp(disch:=omega)only[go_sem,aIs,aIu];rfl) (by simp) (by simp) ⟨rfl,rfl⟩⟩
theorem atS(n:Nat)(L:List ExV)(hn:n≤4)(hl:L.length=n*n):Con Tryz.prog 232 false [.ag [.v (.int .i64 (n)),.sl (L).length (qm ExV.cs (L))]] [] (fun r hs bs=>r=.ag [.v (.int .i64 n),.rf 0 0 (n*n)]∧hs=[.own 6 (qm SpV.cs (L.map ptS))]):=by
 have hq:=Qe hn
 refine Con.of_aw Tryz.func232 rfl Tryz.ntmps232 (by simp) (by simp) (by simp) (W.sound ?_)
 show @W Tryz.prog 31 ⟨_⟩ ⟨fun x σ=>@qU _ _ _ ⟨_⟩ _ ⟨_⟩ x σ⟩ _ _
 simp(disch:=omega)only[go_sem]
 refine zb (ami n hn) (by simp(disch:=omega)only[go_sem]) ?_
 rintro r hs ⟨rfl,rfl⟩
 refine⟨by simp[qS];simp(disch:=omega)only[go_sem],?_⟩
 simp(disch:=omega)only[go_sem]
 refine qj (fun i:Nat=>[(1,.pt 1 0),(2,.pt 2 0),(3,.pt 3 0),(4,.v (.int .i64 i))])
  (fun i=>[(1,.own 0 [.v (.int .i64 n),.sl L.length (qm ExV.cs L)]),(2,.own 0 [.v (.int .i64 0),.v (.slice none 0 0)]),(3,.own 0 [.v (.int .i64 n),.rf 4 0 (n*n)]),(4,.own 6 (qm SpV.cs (mpT L ptS i)++zS (n*n-i) z6))]) (fun i=>i≤n*n) (fun i=>n*n-i) 0 (by omega)
  (Le.lst [(1,30000000),(2,40000000),(3,50000000),(4,90000000)] _ _ rfl (by simp(disch:=omega)only[go_sem]) (by simp(disch:=omega)only[go_sem,jx,Qf,List.nil_append];try rfl)) ?_
 intro i hi
 simp(disch:=omega)only[go_sem]
 refine qg (fun c1=>?_) (fun c1=>?_)
 ·have hi2:i<L.length:=by omega
  have hcut:=zW hi2
  have hml:=zE (F:=ptS) (l:=L) (i:=i) (by omega)
  have hms:=jy (F:=ptS) ex0 hi2
  obtain⟨k,hk⟩:∃k,n*n-i=k+1:=⟨n*n-i-1,by omega⟩
  generalize L.getD i ex0=x at*
  rw[hk]
  simp(disch:=omega)only[go_sem,c1]
  refine qo rfl [⟨0,[],[]⟩,⟨1,[],[]⟩,⟨2,[1],[]⟩,⟨3,[1],[]⟩,⟨4,[1],[]⟩,⟨5,[1,4],[]⟩,⟨6,[1],[]⟩,⟨7,[1],[]⟩,⟨8,[1,4,7],[]⟩,⟨9,[1,4,7],[]⟩,⟨10,[1,4,7,9],[]⟩,⟨11,[1,4,7],[]⟩,⟨12,[1,4,7],[]⟩,⟨13,[1],[]⟩,⟨14,[],[]⟩,⟨15,[],[]⟩] (by kernel_rfl) ?_
  simp(disch:=omega)only[go_sem,hcut]
  have hf:=aFz (L:=mpT L ptS i) (k:=k) (x:=ptS x)
  rw[hml]at hf
  change wr (qm SpV.cs (mpT L ptS i)++zS (k+1) z6) (i*6) [.v (.bool x.s),.sl (lim x.m).length (qe (lim x.m)),.v (.int .i64 x.e),.v (.bool x.s),.sl (lim x.m).length (qe (lim x.m)),.v (.int .i64 x.e)]=_ at hf
  rw[hf]
  refine⟨by omega,by omega,by omega,by omega,by omega,by rw[List.length_append,YP,aIt,hml];omega,qc (i+1) [] (by show i+1≤n*n;omega) (by show n*n-(i+1)<k+1;omega) rfl (by simp(disch:=omega)only[go_sem];try omega) (by simp(disch:=omega)only[go_sem,hms,show n*n-(i+1)=k by omega])⟩
 ·obtain rfl:i=n*n:=by omega
  simp(disch:=omega)only[go_sem,c1]
  have hall:mpT L ptS (n*n)=L.map ptS:=by rw[←hl,yl]
  refine qi [(0,4)] [.own 6 (qm SpV.cs (L.map ptS))] [] [.ag [.v (.int .i64 n),.rf 0 0 (n*n)]] rfl (by simp(disch:=omega)only[go_sem]) (by simp(disch:=omega)only[go_sem,hall,Nat.sub_self,aIr,List.append_nil]) (by simp) (by simp) ⟨rfl,rfl⟩
def bgM(r:AV):Prop:=∃(n:Int) (l:List IvV),l.length≤16∧(∀v∈l,Y4 v)∧r=.ag [.v (.int .i64 n),.sl l.length (qm IvV.cs l)]
theorem Y0{n:Int}{L:List IvV}{o k:Nat}(h1:L.length=o+k)(h2:L.length≤16)(h3:∀v∈L,Y4 v):bgM (qG (rhp [.own 6 (qm IvV.cs L)] []) 6 (.ag [.v (.int .i64 n),.rf 0 (o*6) k])):=by
 refine⟨n,(L.drop o).take k,?_,fun d hd=>h3 d (List.mem_of_mem_drop (List.mem_of_mem_take hd)),?_⟩
 ·rw[List.length_take,List.length_drop];omega
 ·have e:((L.drop o).take k).length=k:=by rw[List.length_take,List.length_drop];omega
  rw[e]
  show AV.ag [_,qG _ 5 (.rf 0 (o*6) k)]=_
  simp only[afa,ze]
  rw[ar0 abe,agH]
  rfl
section
variable (l:List UInt8)(hl:l.length≤9223372036854775807)(i h:Int)(hi:0≤i∧i≤l.length)
include hl hi
theorem afO(n:Nat)(hn:n≤4):Con Tryz.prog 201 false [.pt 10000000 0,.v (.int .i64 n)] [.own 0 [.sl l.length (qk l),.v (.int .i64 i),.v (.int .i64 h)]] (fun r hs bs=>(∃S:List SpV,S.length=n*n∧(∀s∈S,(lim s.lo.m).length≤1000∧(lim s.hi.m).length≤1000)∧r=.ag [.v (.int .i64 n),.rf 0 0 (n*n)]∧hs=[.own 6 (qm SpV.cs S)])∧∃i h:Int,(0≤i∧i≤l.length)∧bs=[.own 0 [.sl l.length (qk l),.v (.int .i64 i),.v (.int .i64 h)]]):=by
 have hq:=Qe hn
 refine Con.of_aw Tryz.func201 rfl Tryz.ntmps201 (by simp) (by simp) (by simp)
  (AW.seqLe (E:=[(0,.pt 10000000 0),(1,.v (.int .i64 n)),(4,.pt 4 0)]) (H:=[(4,.own 0 [.v (.int .i64 0),.v (.slice none 0 0)]),(10000000,.own 0 [.sl l.length (qk l),.v (.int .i64 i),.v (.int .i64 h)])]) (W.sound ?_)
   (AW.seqEx (I:=fun x:List ExV×Int×Int=>x.1.length=n*n∧(∀y∈x.1,y.ok=true)∧(0≤x.2.1∧x.2.1≤l.length)) (E:=fun _=>[(0,.pt 10000000 0),(1,.v (.int .i64 n)),(4,.pt 4 0),(5,.pt 5 0)]) (H:=fun x=>[(4,.own 0 [.v (.int .i64 0),.v (.slice none 0 0)]),(5,.own 0 [.v (.int .i64 n),.sl (n*n) (qm ExV.cs x.1)]),(10000000,.own 0 [.sl l.length (qk l),.v (.int .i64 x.2.1),.v (.int .i64 x.2.2)])]) (W.sound ?_) ?_))
 ·show @W Tryz.prog 39 ⟨_⟩ ⟨_⟩ _ _
  simp(disch:=omega)only[go_sem]
  exact Le.lst [(4,60000000)] _ _ rfl (by simp(disch:=omega)only[go_sem]) (by simp(disch:=omega)only[go_sem])
 ·show @W Tryz.prog 39 ⟨_⟩ ⟨_⟩ _ _
  simp(disch:=omega)only[go_sem]
  refine jL false [10000000] (amb l hl i h hi n hn) (by simp(disch:=omega)only[go_sem]) (by simp(disch:=omega)only[go_sem]) rfl (qP (z:=0) (cs:=[.sl l.length (qk l),.v (.int .i64 i),.v (.int .i64 h)]) (by simp(disch:=omega)only[go_sem]) (by simp(disch:=omega)only[go_sem])) (by intro n hn;exact⟨_,List.mem_cons_self ..,by rw[List.mem_singleton.1 hn];rfl⟩) ?_
  rintro r hs bs ⟨⟨L,hL,hok,rfl,rfl⟩,i1,h1,hi1,rfl⟩-
  refine⟨by simp[qS];simp(disch:=omega)only[go_sem],?_⟩
  simp(disch:=omega)only[go_sem]
  exact⟨(L,i1,h1),⟨hL,hok,hi1⟩,(Le.frz 120000000 (z:=3) (ks:=qm ExV.cs L) (by simp(disch:=omega)only[go_sem]) rfl (by simp(disch:=omega)only[go_sem])).trans (Le.lst [(5,70000000)] _ _ rfl (by simp(disch:=omega)only[go_sem]) (by simp(disch:=omega)only[go_sem,zA hL]))⟩
 rintro⟨L,i1,h1⟩ ⟨hL,hok,hi1⟩
 dsimp only at hL hok hi1 ⊢
 refine W.sound ?_
 show @W Tryz.prog 39 ⟨_⟩ ⟨fun x σ=>@qU _ _ _ ⟨_⟩ _ ⟨_⟩ x σ⟩ _ _
 simp(disch:=omega)only[go_sem]
 have cof:=atS n L hn hL
 rw[hL]at cof
 refine zb cof (by simp(disch:=omega)only[go_sem]) ?_
 rintro r hs2 ⟨rfl,rfl⟩
 refine⟨by simp[qS];simp(disch:=omega)only[go_sem],?_⟩
 simp(disch:=omega)only[go_sem]
 refine qj (fun x:Nat×List SpV×Int×Int=>[(0,.pt 10000000 0),(4,.pt 4 0),(6,.pt 6 0),(7,.v (.int .i64 x.1))])
  (fun x=>[(4,.own 0 [.v (.int .i64 0),.v (.slice none 0 0)]),(6,.own 0 [.v (.int .i64 n),.rf 7 0 (n*n)]),(7,.own 6 (qm SpV.cs x.2.1)),(10000000,.own 0 [.sl l.length (qk l),.v (.int .i64 x.2.2.1),.v (.int .i64 x.2.2.2)])])
  (fun x=>x.1≤n*n∧x.2.1.length=n*n∧(∀s∈x.2.1,(lim s.lo.m).length≤1000∧(lim s.hi.m).length≤1000)∧(∀t,x.1≤t→t<n*n→x.2.1.getD t sp0=ptS (L.getD t ex0))∧(0≤x.2.2.1∧x.2.2.1≤l.length)) (fun x=>n*n-x.1) (0,L.map ptS,i1,h1) ⟨by simp,by rw[List.length_map];exact hL,fun s hs=>?_,fun t _ ht=>?_,hi1⟩
  (Le.lst [(6,80000000),(7,140000000)] _ _ rfl (by simp(disch:=omega)only[go_sem]) (by simp(disch:=omega)only[go_sem])) ?_
 ·obtain⟨x,hx,rfl⟩:=List.mem_map.1 hs
  have:=(z8 (hok x hx)).2.2.1
  exact⟨by show(lim x.m).length≤1000;omega,by show(lim x.m).length≤1000;omega⟩
 ·rw[List.getD_eq_getElem?_getD,List.getElem?_map,List.getD_eq_getElem?_getD,List.getElem?_eq_getElem (by omega)];rfl
 rintro⟨j,S,i2,h2⟩ ⟨hj,hS,hS2,hS3,hi2⟩
 dsimp only at hj hS hS2 hS3 hi2 ⊢
 simp(disch:=omega)only[go_sem]
 refine qg (fun c1=>?_) (fun c1=>?_)
 ·have hj2:j<n*n:=by omega
  simp(disch:=omega)only[go_sem,c1]
  refine qv (qO l hl i2 h2 hi2 2 (by omega)) ?_
  rintro r i3 h3 hi3 ⟨b,rfl⟩
  simp(disch:=omega)only[go_sem]
  cases b
  ·simp(disch:=omega)only[go_sem]
   exact qc (j+1,S,i3,h3) [] ⟨by omega,hS,hS2,fun t ht=>hS3 t (by omega),hi3⟩ (by show n*n-(j+1)<n*n-j;omega) rfl (by simp(disch:=omega)only[go_sem];try omega) (by simp(disch:=omega)only[go_sem])
  ·simp(disch:=omega)only[go_sem]
   refine qo rfl [⟨0,[],[]⟩,⟨1,[],[]⟩,⟨2,[1],[]⟩,⟨3,[1],[]⟩,⟨4,[1],[]⟩,⟨5,[1,4],[]⟩,⟨6,[1],[]⟩,⟨7,[1],[]⟩,⟨8,[1],[]⟩,⟨9,[1,4,8],[]⟩,⟨10,[1,4,8],[]⟩,⟨11,[1,4,8],[]⟩,⟨12,[1,4,8],[]⟩,⟨13,[1],[]⟩,⟨14,[],[]⟩,⟨15,[],[]⟩,⟨16,[],[]⟩] (by kernel_rfl) ?_
   have hcut:=aTd (L:=S) (i:=j) (by omega)
   have hset:=fun y=>arH (L:=S) (i:=j) (y:=y) (by omega)
   have hsj:=hS3 j (Nat.le_refl _) hj2
   have ox:=hok (L.getD j ex0) (by rw[List.getD_eq_getElem?_getD,List.getElem?_eq_getElem (by omega)];exact List.getElem_mem _)
   rw[hsj]at hcut hset
   generalize L.getD j ex0=x at*
   dsimp only[ptS]at hcut hset
   simp(disch:=omega)only[go_sem,hcut]
   refine⟨by omega,by omega,?_⟩
   refine qv (qK l hl i3 h3 hi3 5 (by omega)) ?_
   rintro r i4 h4 hi4 ⟨k,hk,rfl⟩
   simp(disch:=omega)only[go_sem]
   have hk2:=hk.2 (by omega)
   have b6:bl k.natAbs≤6:=zD.2 (by omega)
   have cf:=j8 (decide (k<0)) k.natAbs (-3) (by omega) (by omega)
   have hf:(ExV.mk (decide (k<0)) k.natAbs (-3)).can.ok=true:=by
    rw[af3]
    show jS k.natAbs (-3)=true
    exact abo (by omega) (by omega)
   change Con _ _ _ _ _ (isA (.ag [.v (.bool ((ExV.mk (decide (k<0)) k.natAbs (-3)).can).s),.sl (lim ((ExV.mk (decide (k<0)) k.natAbs (-3)).can).m).length (qe (lim ((ExV.mk (decide (k<0)) k.natAbs (-3)).can).m)),.v (.int .i64 ((ExV.mk (decide (k<0)) k.natAbs (-3)).can).e)]))at cf
   generalize (ExV.mk (decide (k<0)) k.natAbs (-3)).can=z at*
   have bx:=Qh ox
   have bz:=Qh hf
   have ca:=Ys x z (bx.mono (by omega) (by omega)) (bz.mono (by omega) (by omega))
   have hl2:(lim (x.plus z).can.m).length≤1000:=by
    have bp:=ExV.plus_bd bx bz
    have h1:=qC (m:=(x.plus z).m) (B:=7700) (by have:=bp.2.1;have:=bp.2.2;omega)
    have h2:=yn (ase (x.plus z).m)
    show(lim (oM (x.plus z).m)).length≤1000
    omega
   generalize (x.plus z).can=y at*
   refine qa (QO k (by omega)) ?_
   simp(disch:=omega)only[go_sem]
   refine qa (cf) ?_
   simp(disch:=omega)only[go_sem]
   refine qa (ca) ?_
   simp(disch:=omega)only[go_sem]
   rw[hset y]
   refine⟨by omega,by omega,qc (j+1,S.set j ⟨x,y⟩,i4,h4) [] ⟨by omega,by dsimp only;rw[List.length_set];exact hS,fun s hs=>?_,fun t ht htn=>?_,hi4⟩ (by show n*n-(j+1)<n*n-j;omega) rfl (by simp(disch:=omega)only[go_sem];try omega) (by simp(disch:=omega)only[go_sem])⟩
   ·rcases List.mem_or_eq_of_mem_set hs with hs|rfl
    ·exact hS2 s hs
    ·have:=(z8 ox).2.2.1
     exact⟨by show(lim x.m).length≤1000;omega,hl2⟩
   ·dsimp only at ht ⊢
    rw[List.getD_eq_getElem?_getD,List.getElem?_set_ne (by omega),←List.getD_eq_getElem?_getD]
    exact hS3 t (by omega) htn
 ·simp(disch:=omega)only[go_sem,c1]
  refine qi [(0,7)] [.own 6 (qm SpV.cs S)] [.own 0 [.sl l.length (qk l),.v (.int .i64 i2),.v (.int .i64 h2)]] [.ag [.v (.int .i64 n),.rf 0 0 (n*n)]] rfl (by simp(disch:=omega)only[go_sem]) (by simp(disch:=omega)only[go_sem]) (by simp) (by simp) ⟨⟨S,hS,hS2,rfl,rfl⟩,_,_,hi2,rfl⟩
theorem afP(n:Nat)(hn:1≤n∧n≤4):Con Tryz.prog 108 false [.pt 10000000 0,.v (.int .i64 n)] [.own 0 [.sl l.length (qk l),.v (.int .i64 i),.v (.int .i64 h)]] (Yk l bgM):=by
 have hq:=Qe hn.2
 refine Con.cur l i h (Q:=fun r hs=>(∀ob∈hs,ob.men fun _=>False)∧bgM (qG (rhp hs []) 6 r)) ?_ fun _ _ h=>h
 refine Con.of_aw Tryz.func108 rfl Tryz.ntmps108 (by simp) (by simp) (by simp) (W.sound ?_)
 show @W Tryz.prog 33 ⟨_⟩ ⟨fun x σ=>@qU _ _ _ ⟨_⟩ _ ⟨_⟩ x σ⟩ _ _
 simp(disch:=omega)only[go_sem]
 refine jL false [10000000] (afO l hl i h hi n hn.2) (by simp(disch:=omega)only[go_sem]) (by simp(disch:=omega)only[go_sem]) rfl (qP (z:=0) (cs:=[.sl l.length (qk l),.v (.int .i64 i),.v (.int .i64 h)]) (by simp(disch:=omega)only[go_sem]) (by simp(disch:=omega)only[go_sem])) (by intro n hn;exact⟨_,List.mem_cons_self ..,by rw[List.mem_singleton.1 hn];rfl⟩) ?_
 rintro r hs bs ⟨⟨S,hS,hS2,rfl,rfl⟩,i1,h1,hi1,rfl⟩-
 refine⟨by simp[qS];simp(disch:=omega)only[go_sem],?_⟩
 simp(disch:=omega)only[go_sem]
 have h16:(S.map SpV.iv).length=n*n:=by rw[List.length_map];exact hS
 have h200:∀v∈S.map SpV.iv,Y4 v:=fun v hv=>by
  obtain⟨s,hs,rfl⟩:=List.mem_map.1 hv
  exact hS2 s hs
 rw[←Z5]
 generalize S.map SpV.iv=M at*
 have hm:∀(M:List IvV),∀ob∈[Ob.own 6 (qm IvV.cs M)],ob.men fun _=>False:=fun M ob ho=>by rw[List.mem_singleton.1 ho];exact of_eq_true asM
 refine qv (qO l hl i1 h1 hi1 12 (by omega)) ?_
 rintro r i2 h2 hi2 ⟨b,rfl⟩
 simp(disch:=omega)only[go_sem]
 cases b
 ·simp(disch:=omega)only[go_sem]
  refine qi [(0,100000000)] [.own 6 (qm IvV.cs M)] [.own 0 [.sl l.length (qk l),.v (.int .i64 i2),.v (.int .i64 h2)]] [.ag [.v (.int .i64 n),.rf 0 (0*6) (n*n)]] rfl (by simp(disch:=omega)only[go_sem]) (by simp(disch:=omega)only[go_sem]) (by simp) (by simp) ⟨⟨hm M,Y0 (o:=0) (by omega) (by omega) h200⟩,_,_,hi2,rfl⟩
 ·simp(disch:=omega)only[go_sem]
  refine qv (qK l hl i2 h2 hi2 3 (by omega)) ?_
  rintro r i3 h3 hi3 ⟨q,hq,rfl⟩
  simp(disch:=omega)only[go_sem]
  by_cases c0:q=0
  ·simp(disch:=omega)only[go_sem,c0]
   refine yd (zL l hl i3 h3 hi3 [0,(n:Int)+1, -1] (by simp) (by simp)) ?_
   rintro r i4 h4 hi4 ⟨y,hy,rfl⟩
   clear hy
   simp(disch:=omega)only[go_sem]
   refine qi [(0,100000000)] [.own 6 (qm IvV.cs M)] [.own 0 [.sl l.length (qk l),.v (.int .i64 i4),.v (.int .i64 h4)]] [.ag [.v (.int .i64 y),.rf 0 (0*6) (n*n)]] rfl (by simp(disch:=omega)only[go_sem]) (by simp(disch:=omega)only[go_sem]) (by simp) (by simp) ⟨⟨hm M,Y0 (o:=0) (by omega) (by omega) h200⟩,_,_,hi4,rfl⟩
  by_cases c1:q=1
  ·simp(disch:=omega)only[go_sem,c0,c1]
   have h1n:1≤n*n:=Nat.mul_le_mul hn.1 hn.1
   refine⟨by omega,?_⟩
   rw[show(((n*n:Nat):Int)-1).toNat=n*n-1 by omega]
   refine qi [(0,100000000)] [.own 6 (qm IvV.cs M)] [.own 0 [.sl l.length (qk l),.v (.int .i64 i3),.v (.int .i64 h3)]] [.ag [.v (.int .i64 n),.rf 0 (1*6) (n*n-1)]] rfl (by simp(disch:=omega)only[go_sem]) (by simp(disch:=omega)only[go_sem]) (by simp) (by simp) ⟨⟨hm M,Y0 (o:=1) (by omega) (by omega) h200⟩,_,_,hi3,rfl⟩
  simp(disch:=omega)only[go_sem,c0,c1]
  refine qo rfl [⟨0,[],[]⟩,⟨1,[],[]⟩,⟨2,[1],[]⟩,⟨3,[1],[]⟩,⟨4,[],[]⟩,⟨5,[],[]⟩] (by kernel_rfl) ?_
  simp(disch:=omega)only[go_sem]
  have h1n:1≤n*n:=Nat.mul_le_mul hn.1 hn.1
  obtain⟨d0,M,rfl⟩:∃d0 M',M=d0::M':=by
   cases M with
   |nil=>simp at h16;omega
   |cons d M=>exact⟨d,M,rfl⟩
  refine qv (amd l hl i3 h3 hi3) ?_
  rintro r i4 h4 hi4 ⟨v,hv,hr⟩
  obtain rfl:r=.ag [.v (.bool (v).lo.s),.sl (v).lo.xs.length (qe (v).lo.xs),.v (.int .i64 (v).lo.e),.v (.bool (v).hi.s),.sl (v).hi.xs.length (qe (v).hi.xs),.v (.int .i64 (v).hi.e)]:=hr
  simp(disch:=omega)only[go_sem,aGF]
  refine⟨by omega,by omega,qi [(0,100000000)] [.own 6 (qm IvV.cs (v::M))] [.own 0 [.sl l.length (qk l),.v (.int .i64 i4),.v (.int .i64 h4)]] [.ag [.v (.int .i64 n),.rf 0 (0*6) (n*n)]] rfl (by simp(disch:=omega)only[go_sem]) (by simp(disch:=omega)only[go_sem]) (by simp) (by simp) ⟨⟨hm _,Y0 (o:=0) (by simp at h16 ⊢;omega) (by simp at h16 ⊢;omega) (fun d hd'=>?_)⟩,_,_,hi4,rfl⟩⟩
  rcases List.mem_cons.1 hd' with rfl|hd'
  ·exact hv
  ·exact h200 d (List.mem_cons_of_mem _ hd')
end
def blU(M:List IvV):Prop:=M.length≤16∧∀v∈M,Y4 v
end Go.Ab
namespace Go.Ab
open Go Go.Proofs
theorem Xw(k:Int)(M:List IvV)(h1:M.length≤16)(h2:∀v∈M,Y4 v):Con Tryz.prog 38 true [.ag [.v (.int .i64 k),.sl M.length (qm IvV.cs M)]] [] (isA (.v (.bool (XL k M)))):=by
 unfold XL
 refine Con.of_w (rs:=[.tmp 2]) Tryz.func38 rfl Tryz.ntmps38 rfl ?_
 simp(disch:=omega)only[go_sem]
 by_cases c1:k<1
 ·rw[decide_eq_false (show ¬1≤k by omega),Bool.false_and,Bool.false_and]
  simp(disch:=omega)only[go_sem,c1]
  exact qu
 by_cases c2:4<k
 ·rw[decide_eq_false (show ¬k≤4 by omega),Bool.and_false,Bool.false_and]
  simp(disch:=omega)only[go_sem,c1,c2]
  exact qu
 rw[decide_eq_true (show 1≤k by omega),decide_eq_true (show k≤4 by omega),Bool.true_and,Bool.true_and]
 have hq:0≤k*k∧k*k≤16:=⟨Int.mul_nonneg (by omega) (by omega),Int.mul_le_mul (show k≤4 by omega) (show k≤4 by omega) (by omega) (by omega)⟩
 by_cases c3:(M.length:Int)=k*k
 rotate_left
 ·rw[decide_eq_false c3,Bool.false_and]
  simp(disch:=omega)only[go_sem,c1,c2,decide_eq_false c3]
  exact qu
 rw[decide_eq_true c3,Bool.true_and]
 simp(disch:=omega)only[go_sem,c1,c2,decide_eq_true c3]
 refine qj (fun i:Nat=>[(1,.pt 1 0),(2,.v (.bool false)),(3,.v (.int .i64 i))]) (fun _=>[(1,.own 0 [.v (.int .i64 k),.sl M.length (qm IvV.cs M)])]) (fun i=>i≤M.length∧∀j,j<i→ivB (M.getD j iv0)=true) (fun i=>M.length-i) 0 ⟨by omega,fun j hj=>by omega⟩
  (Le.lst [(1,30000000)] _ _ rfl (by simp(disch:=omega)only[go_sem]) (by simp(disch:=omega)only[go_sem])) ?_
 rintro i ⟨hi,hp⟩
 simp(disch:=omega)only[go_sem]
 refine qg (fun h3=>?_) (fun h3=>?_)
 ·have hcut:=Z6 (l:=M) abe (i:=i) (by omega) iv0
  have hmem:M.getD i iv0∈M:=by
   rw[List.getD_eq_getElem?_getD,List.getElem?_eq_getElem (by omega)];exact List.getElem_mem _
  have cd:=at4 (M.getD i iv0) (h2 _ hmem)
  have hall:ivB (M.getD i iv0)=false→M.all ivB=false:=fun h=>List.all_eq_false.2 ⟨_,hmem,by rw[h];simp⟩
  have hnext:ivB (M.getD i iv0)=true→∀j,j<i+1→ivB (M.getD j iv0)=true:=fun h j hj=>by
   rcases(by omega:j<i∨j=i)with h'|rfl
   ·exact hp j h'
   ·exact h
  generalize ivB (M.getD i iv0)=b at*
  generalize M.getD i iv0=d at*
  change cut (qm IvV.cs M) (i*6) 6=[.v (.bool d.lo.s),.sl d.lo.xs.length (qe d.lo.xs),.v (.int .i64 d.lo.e),.v (.bool d.hi.s),.sl d.hi.xs.length (qe d.hi.xs),.v (.int .i64 d.hi.e)]at hcut
  simp(disch:=omega)only[go_sem,h3,hcut]
  refine⟨by omega,by omega,qb cd ?_⟩
  simp(disch:=omega)only[go_sem]
  cases b
  ·rw[hall rfl]
   simp(disch:=omega)only[go_sem]
   exact qu
  ·simp(disch:=omega)only[go_sem]
   exact qc (i+1) [] ⟨by omega,hnext rfl⟩ (by show M.length-(i+1)<M.length-i;omega) rfl (by simp(disch:=omega)only[go_sem];try omega) (by simp(disch:=omega)only[go_sem])
 ·simp(disch:=omega)only[go_sem,h3]
  have hall:M.all ivB=true:=List.all_eq_true.2 fun d hd=>by
   obtain⟨j,hj,rfl⟩:=List.getElem_of_mem hd
   have:=hp j (by omega)
   rw[List.getD_eq_getElem?_getD,List.getElem?_eq_getElem hj]at this
   exact this
  rw[hall]
  exact qu
theorem yK(n:Nat)(L:List ExV)(h:matV n L):Con Tryz.prog 42 false [.ag [.v (.int .i64 (n)),.sl (L).length (qm ExV.cs (L))]] [] (isA (.tu [.ag [.v (.int .i64 (n)),.sl (L.map ptS).length (qm SpV.cs (L.map ptS))],.v (.bool true)])):=by
 refine Con.frzA ?_
 have l1:=h.l16
 have co:=Qs n L (by omega)
 have cm:=jG n (L.map ptS) (by rw[List.length_map];omega) (fun s hs=>by
  obtain⟨x,hx,rfl⟩:=List.mem_map.1 hs
  have:=h.bd x hx
  exact⟨this.mono (by omega) (by omega),this.mono (by omega) (by omega)⟩)
 have hf:(L.map ptS).all SpV.fit=true:=List.all_eq_true.2 fun s hs=>by
  obtain⟨x,hx,rfl⟩:=List.mem_map.1 hs
  have:=aUi (h.ok x hx)
  show(x.fit&&x.fit)=true
  rw[this];rfl
 have hc:(L.map ptS).map SpV.can=L.map ptS:=by
  rw[List.map_map]
  refine List.map_congr_left fun x hx=>?_
  show(⟨x.can,x.can⟩:SpV)=⟨x,x⟩
  rw[aJE (h.ok x hx)]
 unfold fN fT at cm
 rw[hf,if_pos rfl,if_pos rfl,hc]at cm
 generalize L.map ptS=S at*
 refine Con.of_w (rs:=[.cell 2 30,.tmp 3]) Tryz.func42 rfl Tryz.ntmps42 rfl ?_
 simp(disch:=omega)only[go_sem]
 refine qb (YC n L h) ?_
 simp(disch:=omega)only[go_sem]
 refine qa (Qq n L (by omega)) ?_
 simp(disch:=omega)only[go_sem]
 refine qa (co) ?_
 simp(disch:=omega)only[go_sem]
 refine qa (cm) ?_
 simp(disch:=omega)only[go_sem]
 exact ql
theorem afd{n:Nat}{L:List ExV}(h:matV n L):imatV n (L.map ptS):=⟨h.n1,h.n4,by rw[List.length_map];exact h.len,fun s hs=>by
 obtain⟨x,hx,rfl⟩:=List.mem_map.1 hs
 have:=h.ok x hx
 show(x.ok&&(x.ok&&decide (x.val 3000≤x.val 3000)))=true
 rw[this,decide_eq_true (Int.le_refl _)];rfl⟩
end Go.Ab
namespace Go.Ab
open Go Go.Proofs
def alW:ExV:=⟨false,5,1⟩
theorem bgN:matV 1 [alW]:=⟨by omega,by omega,rfl,fun x hx=>by rw[List.mem_singleton.1 hx];decide+kernel⟩
def aSm:SpV:=⟨alW,alW⟩
theorem aUO:imatV 1 [aSm]:=⟨by omega,by omega,rfl,fun x hx=>by rw[List.mem_singleton.1 hx];decide+kernel⟩
set_option maxRecDepth 100000 in
theorem amj:Con Tryz.prog 33 true [] [] (isA (.v (.bool true))):=by
 have d5:=afT 5 0 (by omega) (by omega)
 rw[show(ExV.mk (decide ((5:Int)<0)) (5:Int).natAbs 0).tel=ex5 by decide+kernel]at d5
 have d10:=afT 10 0 (by omega) (by omega)
 rw[show(ExV.mk (decide ((10:Int)<0)) (10:Int).natAbs 0).tel=alW by decide+kernel]at d10
 obtain⟨n,hn⟩:∃n:Nat,n=1:=⟨1,rfl⟩
 have hm:matV n [ex5]:=by rw[hn];exact blS
 have hm10:matV n [alW]:=by rw[hn];exact bgN
 have hi10:imatV n [aSm]:=by rw[hn];exact aUO
 have co:=yK n [ex5] hm
 have hp:=afd hm
 have ca:=XB n ([ex5].map ptS) ([ex5].map ptS) hp hp
 have ea:(yp ([ex5].map ptS) ([ex5].map ptS)).all SpV.fit=true∧fT (yp ([ex5].map ptS) ([ex5].map ptS))=[aSm]:=by decide+kernel
 have en':fN n (yp ([ex5].map ptS) ([ex5].map ptS))=n:=if_pos ea.1
 rw[ea.1,ea.2,en']at ca
 have ch:=qR n [aSm] [alW] hi10 hm10
 rw[show alP [aSm] [alW] (n*n)=true by rw[hn];decide+kernel]at ch
 have en:(n:Int)=1:=by omega
 have hrow5:qm ExV.cs [ex5]=[.v (.bool ex5.s),.sl (lim ex5.m).length (qe (lim ex5.m)),.v (.int .i64 ex5.e)]:=by simp[qm,ExV.cs]
 have hrow10:qm ExV.cs [alW]=[.v (.bool alW.s),.sl (lim alW.m).length (qe (lim alW.m)),.v (.int .i64 alW.e)]:=by simp[qm,ExV.cs]
 rw[en]at co ca ch
 rw[hrow5]at co
 rw[hrow10]at ch
 generalize [ex5].map ptS=V at*
 generalize [aSm]=W1 at*
 generalize ex5=x at*
 generalize alW=y at*
 refine Con.of_aw Tryz.func33 rfl Tryz.ntmps33 (by simp) (by simp) (by simp) (AW.seqLe (E:=[]) (H:=[]) (W.sound ?_) (AW.seqLe (E:=[(1,.pt 1 0)])
  (H:=[(1,.own 0 [.v (.int .i64 1),.sl 1 [.v (.bool x.s),.sl (lim x.m).length (qe (lim x.m)),.v (.int .i64 x.e)]])]) (W.sound ?_) (W.sound ?_)))
 ·show @W Tryz.prog 31 ⟨_⟩ ⟨_⟩ _ _
  simp(disch:=omega)only[go_sem]
  exact Le.lst [] _ _ rfl (by simp(disch:=omega)only[go_sem]) (by simp(disch:=omega)only[go_sem])
 ·show @W Tryz.prog 31 ⟨_⟩ ⟨_⟩ _ _
  simp(disch:=omega)only[go_sem]
  refine qa (d5) ?_
  simp(disch:=omega)only[go_sem]
  exact(Le.frz 90000000 (z:=3) (ks:=[.v (.bool x.s),.sl (lim x.m).length (qe (lim x.m)),.v (.int .i64 x.e)]) (by simp(disch:=omega)only[go_sem]) rfl (by simp(disch:=omega)only[go_sem])).trans (Le.lst [(1,30000000)] _ _ rfl (by simp(disch:=omega)only[go_sem]) (by simp(disch:=omega)only[go_sem]))
 show @W Tryz.prog 31 ⟨_⟩ ⟨fun x σ=>@qU _ _ _ ⟨_⟩ _ ⟨_⟩ x σ⟩ _ _
 simp(disch:=omega)only[go_sem]
 refine qa (co) ?_
 simp(disch:=omega)only[go_sem]
 refine qa (ca) ?_
 simp(disch:=omega)only[go_sem]
 refine qo rfl [⟨0,[],[]⟩,⟨1,[],[]⟩,⟨2,[],[]⟩,⟨3,[],[]⟩,⟨4,[],[]⟩,⟨5,[],[]⟩,⟨6,[5],[]⟩,⟨7,[5],[]⟩,⟨8,[5],[]⟩,⟨9,[],[]⟩,⟨10,[],[]⟩,⟨11,[],[]⟩] (by kernel_rfl) ?_
 simp(disch:=omega)only[go_sem]
 refine qa (d10) ?_
 simp(disch:=omega)only[go_sem]
 refine qb (ch) ?_
 simp(disch:=omega)only[go_sem]
 exact qu
theorem arL{K:Nat}{s:SpV}{x:ExV}(hK:3000≤K)(hs:s.ok=true)(hx:x.ok=true)(h:inS K s (x.val K) 1):arM s x=true:=by
 have es:=(Qx hs).1
 have eb:=(z8 hx).1.1
 obtain⟨a,b⟩:=h
 rw[Int.mul_one]at a b
 have e:3000+(K-3000)=K:=by omega
 have a':=(abZ (K:=3000) (j:=K-3000) es.1 eb).2 (by rw[e];exact a)
 have b':=(abZ (K:=3000) (j:=K-3000) eb es.2).2 (by rw[e];exact b)
 unfold arM
 rw[decide_eq_true a',decide_eq_true b'];rfl
theorem aUD{s:SpV}(hs:s.ok=true):inS 3001 s ((y4 s).val 3001) 1∧ -((3001:Nat):Int)≤(y4 s).e:=by
 obtain⟨es,hle, -, -⟩:=Qx hs
 have e0: -((3000:Nat):Int)≤(s.lo.plus s.hi).e:=yD es.1 es.2
 have e1:(y4 s).val 3001=(s.lo.plus s.hi).val 3000:=by
  show dv 3001 _ _ ((s.lo.plus s.hi).e+ -1)=dv 3000 _ _ _
  unfold dv
  rw[show(s.lo.plus s.hi).e+ -1+((3001:Nat):Int)=(s.lo.plus s.hi).e+((3000:Nat):Int) by omega];rfl
 rw[e1,jw es.1 es.2]
 have u1:s.lo.val (3000+1)=s.lo.val 3000*p2 1:=agj es.1
 have u2:s.hi.val (3000+1)=s.hi.val 3000*p2 1:=agj es.2
 have h2:p2 1=2:=by decide
 rw[h2]at u1 u2
 refine⟨⟨?_,?_⟩,by show-((3001:Nat):Int)≤(s.lo.plus s.hi).e+ -1;omega⟩
 ·show s.lo.val (3000+1)*1≤_;omega
 ·show _≤s.hi.val (3000+1)*1;omega
end Go.Ab
namespace Go.Ab
open Go Go.Proofs
/-! ### Points of matrices of intervals-/
def inM(K:Nat)(S:List SpV)(L:List ExV)(k:Nat):Prop:=∀i,i<k→inS K (S.getD i sp0) ((L.getD i ex0).val K) 1
theorem zO{Y:Type}{l:List Y}{f:Y→SpV}{i:Nat}(h:i<l.length)(d:Y):(l.map f).getD i sp0=f (l.getD i d):=by
 rw[List.getD_eq_getElem?_getD,List.getElem?_map,List.getD_eq_getElem?_getD,List.getElem?_eq_getElem h];rfl
theorem QL{Y:Type}{l:List Y}{f:Y→ExV}{i:Nat}(h:i<l.length)(d:Y):(l.map f).getD i ex0=f (l.getD i d):=by
 rw[List.getD_eq_getElem?_getD,List.getElem?_map,List.getD_eq_getElem?_getD,List.getElem?_eq_getElem h];rfl
theorem Qy{l:List SpV}{i:Nat}(h:i<l.length):l.getD i sp0∈l:=by
 rw[List.getD_eq_getElem?_getD,List.getElem?_eq_getElem h];exact List.getElem_mem _
theorem aJW{l:List ExV}{i:Nat}(h:i<l.length):l.getD i ex0∈l:=by
 rw[List.getD_eq_getElem?_getD,List.getElem?_eq_getElem h];exact List.getElem_mem _
theorem aP8{n:Nat}{g:Nat→Nat→SpV}{k t:Nat}(h:t<k):(gly n g k).getD t sp0=g (t/n) (t % n):=by
 unfold gly
 have r:(List.range k).getD t 0=t:=by rw[List.getD_eq_getElem?_getD,List.getElem?_range h];rfl
 rw[zO (by rw[List.length_range];exact h) 0,r]
theorem imatV.eK{n K:Nat}{S:List SpV}(h:imatV n S)(hK:3000≤K){i:Nat}(hi:i<n*n):(S.getD i sp0).eK K:=by
 have:=(Qx (h.ok _ (Qy (by rw[h.len];exact hi)))).1
 exact⟨by have:=this.1;omega,by have:=this.2;omega⟩
theorem aUS{n K:Nat}{S:List SpV}{L:List ExV}(hK:3000≤K)(hS:imatV n S)(hL:matV n L)(h:inM K S L (n*n)):alP S L (n*n)=true:=by
 unfold alP
 exact List.all_eq_true.2 fun i hi=>by
  have hi:=List.mem_range.1 hi
  exact arL hK (hS.ok _ (Qy (by rw[hS.len];exact hi))) (hL.ok _ (aJW (by rw[hL.len];exact hi))) (h i hi)
theorem aP2{n:Nat}{S:List SpV}(h:imatV n S):inM 3001 S ((S.map y4).map ExV.can) (n*n):=fun i hi=>by
 have hl:i<S.length:=by rw[h.len];exact hi
 obtain⟨a,b⟩:=aUD (h.ok _ (Qy hl))
 rw[QL (by rw[List.length_map];exact hl) ex0,QL hl sp0,yq b]
 exact a
theorem aJQ{n i:Nat}:i/n*n+i % n=i:=by rw[Nat.mul_comm];exact Nat.div_add_mod i n
end Go.Ab
namespace Go.Ab
open Go
/-! ### Rows of which some cells groups are still nought-/
def ocs:Option ExV→List AV
 |none=>z3
 |some x=>x.cs
theorem aUr:∀x,(ocs x).length=3:=fun x=>by cases x<;>rfl
theorem aPh{ρ:Nat→Nat}{l:List (Option ExV)}:zP ρ (qm ocs l)=qm ocs l:=QY fun x=>by
 cases x with
 |none=>exact ID rfl
 |some x=>exact atc x
theorem aPi{p:Nat→Prop}{l:List (Option ExV)}:AllL p (qm ocs l)=True:=eq_true (QZ fun x=>by
 cases x with
 |none=>simp[ocs,z3,AllL,AV.All]
 |some x=>exact atd x)
theorem asd{l:List (Option ExV)}:(qm ocs l).length=l.length*3:=yj aUr
theorem aF7{k:Nat}:zS k z3=qm ocs (List.replicate k none):=by
 unfold qm zS
 rw[List.map_replicate];rfl
theorem aPg{l:List (Option ExV)}{i:Nat}{x:ExV}(hi:i<l.length):wr (qm ocs l) (i*3) [.v (.bool x.s),.sl (lim x.m).length (qe (lim x.m)),.v (.int .i64 x.e)]=qm ocs (l.set i (some x)):=aOt aUr (y:=some x) hi
theorem aF8{hp:Nat→Ob}{k:Nat}{l:List (Option ExV)}:(qm ocs l).map (qG hp (k+1))=qm ExV.cs (l.map fun o=>o.getD ex0):=by
 induction l with
 |nil=>rfl
 |cons o l ih=>
  rw[q6,List.map_append,ih,List.map_cons,q6]
  congr 1
  cases o with
  |none=>simp[ocs,z3,qG,ExV.cs,ex0,qs,qe]
  |some x=>
   have:=agO (hp:=hp) (k:=k) (l:=[x])
   rw[q6,jN,List.append_nil]at this
   exact this
attribute [go_sem] aPh aPi asd
end Go.Ab
namespace Go.Ab
open Go Go.Proofs
/-! ### Widened,rounded and divided matrices of intervals-/
theorem aQ5{S:List SpV}{y:ExV}{lo hi:Int}(hb:sbd lo hi S)(hy:y.bd lo hi):sbd lo (hi+1) (S.map fun s=>s.fat y):=fun x hx=>by
 obtain⟨s,hs,rfl⟩:=List.mem_map.1 hx
 exact SpV.fat_bd (hb s hs) hy
theorem Xz(n:Nat)(S:List SpV)(y:ExV)(h:imatV n S)(hy:y.ok=true)(h0:y.s=false):Con Tryz.prog 35 false [.ag [.v (.int .i64 (n)),.sl (S).length (qm SpV.cs (S))],.ag [.v (.bool (y).s),.sl (lim (y).m).length (qe (lim (y).m)),.v (.int .i64 (y).e)]] [] (isA (.tu [.ag [.v (.int .i64 (fN n (S.map fun s=>s.fat y))),.sl (fT (S.map fun s=>s.fat y)).length (qm SpV.cs (fT (S.map fun s=>s.fat y)))],.v (.bool ((S.map fun s=>s.fat y).all SpV.fit))])):=by
 refine Con.frzA ?_
 have l1:=h.l16
 have by':=Qh hy
 have cd:=Xs y.s (lim y.m) y.e (by have:=(z8 hy).2.2.1;omega)
 rw[show dyB y.s (lim y.m) y.e=true from hy]at cd
 have co:=agZ n S y (by omega) (zk h.bd (by omega) (by omega)) (by'.mono (by omega) (by omega))
 have cm:=jG n (S.map fun s=>s.fat y) (by rw[List.length_map];omega) (zk (aQ5 h.bd (by'.mono (by omega) (by omega))) (by omega) (by omega))
 generalize (S.map fun s=>s.fat y)=z at*
 obtain⟨_,m,e⟩:=y
 obtain rfl:_=false:=h0
 dsimp only at cd co ⊢
 refine Con.of_w (rs:=[.cell 4 30,.tmp 5]) Tryz.func35 rfl Tryz.ntmps35 rfl ?_
 simp(disch:=omega)only[go_sem]
 refine qb (zy n S h) ?_
 simp(disch:=omega)only[go_sem]
 refine qb (cd) ?_
 simp(disch:=omega)only[go_sem]
 refine qo rfl [⟨0,[],[]⟩,⟨2,[0],[]⟩,⟨1,[2],[]⟩,⟨3,[],[]⟩,⟨4,[],[]⟩,⟨5,[],[]⟩,⟨6,[],[]⟩,⟨7,[],[]⟩,⟨8,[],[]⟩,⟨9,[],[]⟩] (by kernel_rfl) ?_
 simp(disch:=omega)only[go_sem]
 refine qa (zF n S (by omega)) ?_
 simp(disch:=omega)only[go_sem]
 refine qa (zX false m e) ?_
 simp(disch:=omega)only[go_sem]
 refine qa (co) ?_
 simp(disch:=omega)only[go_sem]
 refine qa (cm) ?_
 simp(disch:=omega)only[go_sem]
 exact ql
theorem yM(k:Int)(M:List IvV)(d:DyV)(h1:M.length≤16)(h2:∀v∈M,Y4 v)(hd:d.xs.length≤200)(h:(XL k M&&(dyB d.s d.xs d.e&& !d.s))=false):
  Con Tryz.prog 35 false [.ag [.v (.int .i64 k),.sl M.length (qm IvV.cs M)],.ag d.cs] [] (isA (.tu [.ag [.v (.int .i64 0),.sl 0 []],.v (.bool false)])):=by
 refine Con.frzA ?_
 obtain⟨s,xs,e⟩:=d
 dsimp only at h hd
 unfold DyV.cs
 have c1:=zY k M (by omega) h2
 have cd:=Xs s xs e (by omega)
 generalize XL k M=b1 at*
 generalize dyB s xs e=b2 at*
 refine Con.of_w (rs:=[.cell 4 30,.tmp 5]) Tryz.func35 rfl Tryz.ntmps35 rfl ?_
 simp(disch:=omega)only[go_sem]
 refine qb (c1) ?_
 simp(disch:=omega)only[go_sem]
 cases b1
 ·simp(disch:=omega)only[go_sem]
  exact ql
 simp(disch:=omega)only[go_sem]
 refine qb (cd) ?_
 simp(disch:=omega)only[go_sem]
 cases b2
 ·simp(disch:=omega)only[go_sem]
  exact ql
 cases s
 ·cases h
 ·simp(disch:=omega)only[go_sem]
  exact ql
theorem Xv(n:Nat)(S:List SpV)(low:Int)(h:imatV n S)(hlo: -200≤low∧low≤200):Con Tryz.prog 36 false [.ag [.v (.int .i64 (n)),.sl (S).length (qm SpV.cs (S))],.v (.int .i64 low)] [] (isA (.tu [.ag [.v (.int .i64 (fN n (S.map fun s=>s.out low))),.sl (fT (S.map fun s=>s.out low)).length (qm SpV.cs (fT (S.map fun s=>s.out low)))],.v (.bool ((S.map fun s=>s.out low).all SpV.fit))])):=by
 refine Con.frzA ?_
 have l1:=h.l16
 have cf:=Yz low
 rw[decide_eq_true hlo.1,decide_eq_true hlo.2]at cf
 have co:=agY n S low (by omega) (zk h.bd (by omega) (by omega)) ⟨by omega,by omega⟩
 have cm:=jG n (S.map fun s=>s.out low) (by rw[List.length_map];omega) (fun x hx=>by
  obtain⟨s,hs,rfl⟩:=List.mem_map.1 hx
  have:=SpV.out_bd (low:=low) (h.bd s hs) (by omega) (by omega)
  exact⟨this.1.mono (by omega) (by omega),this.2.mono (by omega) (by omega)⟩)
 generalize (S.map fun s=>s.out low)=z at*
 refine Con.of_w (rs:=[.cell 4 30,.tmp 5]) Tryz.func36 rfl Tryz.ntmps36 rfl ?_
 simp(disch:=omega)only[go_sem]
 refine qb (zy n S h) ?_
 simp(disch:=omega)only[go_sem]
 refine qb (cf) ?_
 simp(disch:=omega)only[go_sem]
 refine qa (zF n S (by omega)) ?_
 simp(disch:=omega)only[go_sem]
 refine qa (co) ?_
 simp(disch:=omega)only[go_sem]
 refine qa (cm) ?_
 simp(disch:=omega)only[go_sem]
 exact ql
theorem JI(k:Int)(M:List IvV)(low:Int)(h1:M.length≤16)(h2:∀v∈M,Y4 v)(h:XL k M=false):
  Con Tryz.prog 36 false [.ag [.v (.int .i64 k),.sl M.length (qm IvV.cs M)],.v (.int .i64 low)] [] (isA (.tu [.ag [.v (.int .i64 0),.sl 0 []],.v (.bool false)])):=by
 refine Con.frzA ?_
 have c1:=zY k M (by omega) h2
 rw[h]at c1
 refine Con.of_w (rs:=[.cell 4 30,.tmp 5]) Tryz.func36 rfl Tryz.ntmps36 rfl ?_
 simp(disch:=omega)only[go_sem]
 refine qb (c1) ?_
 simp(disch:=omega)only[go_sem]
 exact ql
theorem JK(k:Int)(M:List IvV)(h1:M.length≤16)(h2:∀v∈M,Y4 v)(h:XL k M=false):
  Con Tryz.prog 37 false [.ag [.v (.int .i64 k),.sl M.length (qm IvV.cs M)]] [] (isA (.tu [.ag [.v (.int .i64 0),.sl 0 []],.v (.bool false)])):=by
 refine Con.frzA ?_
 have c1:=zY k M (by omega) h2
 rw[h]at c1
 refine Con.of_w (rs:=[.cell 2 25,.tmp 3]) Tryz.func37 rfl Tryz.ntmps37 rfl ?_
 simp(disch:=omega)only[go_sem]
 refine qb (c1) ?_
 simp(disch:=omega)only[go_sem]
 exact ql
theorem XA(n:Nat)(S:List SpV)(h:imatV n S):Con Tryz.prog 41 false [.ag [.v (.int .i64 (n)),.sl (S).length (qm SpV.cs (S))],.v (.int .i64 3),.v (.int .i64 (-20))] [] (isA (.tu [.ag [.v (.int .i64 (fN n (S.map fun s=>s.divd 3 (-20)))),.sl (fT (S.map fun s=>s.divd 3 (-20))).length (qm SpV.cs (fT (S.map fun s=>s.divd 3 (-20))))],.v (.bool ((S.map fun s=>s.divd 3 (-20)).all SpV.fit))])):=by
 refine Con.frzA ?_
 have l1:=h.l16
 have cw:=zj 3 1 1000000
 have cf:=Yz (-20)
 have co:=ag0 n S 3 (-20) (by omega) (zk h.bd (by omega) (by omega)) (by omega) (by omega) ⟨by omega,by omega⟩
 have cm:=jG n (S.map fun s=>s.divd 3 (-20)) (by rw[List.length_map];omega) (fun x hx=>by
  obtain⟨s,hs,rfl⟩:=List.mem_map.1 hx
  have:=SpV.over_bd (s:=s) (t:=⟨exN 3,exN 3⟩) (low:= -20) (l2:=0) (H:=9000) (h.bd s hs) ⟨by show(0:Int)≤0;omega,by show(0:Int)≤0;omega⟩ (by omega) (by omega)
  exact⟨this.1.mono (by omega) (by omega),this.2.mono (by omega) (by omega)⟩)
 generalize (S.map fun s=>s.divd 3 (-20))=z at*
 refine Con.of_w (rs:=[.cell 6 30,.tmp 7]) Tryz.func41 rfl Tryz.ntmps41 rfl ?_
 simp(disch:=omega)only[go_sem]
 refine qb (zy n S h) ?_
 simp(disch:=omega)only[go_sem]
 refine qb (cw) ?_
 simp(disch:=omega)only[go_sem]
 refine qb (cf) ?_
 simp(disch:=omega)only[go_sem]
 refine qa (zF n S (by omega)) ?_
 simp(disch:=omega)only[go_sem]
 refine qa (co) ?_
 simp(disch:=omega)only[go_sem]
 refine qa (cm) ?_
 simp(disch:=omega)only[go_sem]
 exact ql
end Go.Ab
namespace Go.Ab
open Go Go.Proofs
theorem Zz(l:List UInt8)(hl:l.length≤9223372036854775807):Con Tryz.prog 34 false [.sl l.length (qk l)] [] (fun r hs bs=>hs=[]∧bs=[]∧∃(n:Int) (M:List IvV) (d:DyV),blU M∧d.xs.length≤200∧r=.tu [.ag [.v (.int .i64 n),.sl M.length (qm IvV.cs M)],.ag d.cs]):=by
 refine Con.of_aw Tryz.func34 rfl Tryz.ntmps34 (by simp) (by simp) (by simp) (W.sound ?_)
 show @W Tryz.prog 27 ⟨_⟩ ⟨fun x σ=>@qU _ _ _ ⟨_⟩ _ ⟨_⟩ x σ⟩ _ _
 simp(disch:=omega)only[go_sem]
 refine zb (atR l hl) (by simp(disch:=omega)only[go_sem]) ?_
 rintro r hs ⟨rfl, -,⟨h,rfl⟩⟩
 refine⟨by simp(disch:=omega)only[go_sem],?_⟩
 simp(disch:=omega)only[go_sem]
 refine qv (aRk l hl 0 h (by omega)) ?_
 rintro r i1 h1 hi1 ⟨n,hn,rfl⟩
 simp(disch:=omega)only[go_sem]
 refine qv (afP l hl i1 h1 hi1 n hn) ?_
 rintro r i2 h2 hi2 ⟨k,L,hL1,hL2,rfl⟩
 simp(disch:=omega)only[go_sem]
 refine qv (Yr l hl i2 h2 hi2) ?_
 rintro r i3 h3 hi3 ⟨⟨S,xs,E⟩,hxs,rfl⟩
 simp(disch:=omega)only[go_sem]
 unfold DyV.cs
 dsimp only at hxs
 cases S
 ·simp(disch:=omega)only[go_sem]
  refine qo rfl [⟨0,[],[]⟩,⟨1,[0],[]⟩,⟨2,[1],[]⟩,⟨3,[],[]⟩] (by kernel_rfl) ?_
  simp(disch:=omega)only[go_sem]
  exact qT (by simp(disch:=omega)only[go_sem]) ⟨rfl,rfl,k,L,⟨false,xs,E⟩,⟨hL1,hL2⟩,hxs,rfl⟩
 ·simp(disch:=omega)only[go_sem]
  refine qv (qO l hl i3 h3 hi3 5 (by omega)) ?_
  rintro r i4 h4 hi4 ⟨b,rfl⟩
  simp(disch:=omega)only[go_sem]
  cases b
  ·simp(disch:=omega)only[go_sem]
   refine qo rfl [⟨0,[],[]⟩,⟨1,[0],[]⟩,⟨2,[1],[]⟩,⟨3,[],[]⟩] (by kernel_rfl) ?_
   simp(disch:=omega)only[go_sem]
   exact qT (by simp(disch:=omega)only[go_sem]) ⟨rfl,rfl,k,L,⟨false,xs,E⟩,⟨hL1,hL2⟩,hxs,rfl⟩
  ·simp(disch:=omega)only[go_sem]
   refine qo rfl [⟨0,[],[]⟩,⟨1,[0],[]⟩,⟨2,[1],[]⟩,⟨3,[],[]⟩] (by kernel_rfl) ?_
   simp(disch:=omega)only[go_sem]
   exact qT (by simp(disch:=omega)only[go_sem]) ⟨rfl,rfl,k,L,⟨true,xs,E⟩,⟨hL1,hL2⟩,hxs,rfl⟩
def alJ(s t:SpV):Bool:=decide ((jZ s t).lo.val 3000≤(jZ s t).hi.val 3000)
theorem yL(n:Nat)(S S':List SpV)(h:imatV n S)(h':imatV n S')(hm:∀i,i<n*n→alJ (S.getD i sp0) (S'.getD i sp0)=true):Con Tryz.prog 18 true [.ag [.v (.int .i64 (n)),.sl (S).length (qm SpV.cs (S))],.ag [.v (.int .i64 (n)),.sl (S').length (qm SpV.cs (S'))]] [] (isA (.v (.bool true))):=by
 have l1:=h.l16
 have l2:=h'.l16
 have hS:=h.len
 have hS':=h'.len
 have ca:=jT n n S S' h h'
 rw[decide_eq_true rfl]at ca
 refine Con.of_w (rs:=[.tmp 4]) Tryz.func18 rfl Tryz.ntmps18 rfl ?_
 simp(disch:=omega)only[go_sem]
 refine qb (ca) ?_
 simp(disch:=omega)only[go_sem]
 refine qj (fun i:Nat=>[(2,.pt 2 0),(3,.pt 3 0),(4,.v (.bool false)),(14,.sl S.length (qm SpV.cs S)),(15,.v (.int .i64 S.length)),(16,.v (.int .i64 i))])
  (fun _=>[(2,.own 0 [.v (.int .i64 n),.sl S.length (qm SpV.cs S)]),(3,.own 0 [.v (.int .i64 n),.sl S'.length (qm SpV.cs S')])]) (fun i=>i≤S.length) (fun i=>S.length-i) 0 (by omega)
  (Le.lst [(2,40000000),(3,50000000)] _ _ rfl (by simp(disch:=omega)only[go_sem]) (by simp(disch:=omega)only[go_sem])) ?_
 intro i hi
 simp(disch:=omega)only[go_sem]
 refine qg (fun h1=>?_) (fun h1=>?_)
 ·have hi2:i<S.length:=by omega
  have hci:=jr (l:=S) (i:=i) hi2
  have hcx:=jr (l:=S') (i:=i) (by omega)
  have os:=h.ok _ (Qy (l:=S) hi2)
  have ox:=h'.ok _ (Qy (l:=S') (i:=i) (by omega))
  have ch:=al4 (S.getD i sp0) (S'.getD i sp0) os ox
  have hmi:=hm i (by omega)
  change decide ((jZ (S.getD i sp0) (S'.getD i sp0)).lo.val 3000≤(jZ (S.getD i sp0) (S'.getD i sp0)).hi.val 3000)=true at hmi
  rw[hmi]at ch
  generalize jZ (S.getD i sp0) (S'.getD i sp0)=u at*
  generalize S.getD i sp0=s at*
  generalize S'.getD i sp0=x at*
  simp(disch:=omega)only[go_sem,h1,hci]
  refine⟨by omega,by omega,?_⟩
  refine qo rfl [⟨0,[],[]⟩,⟨2,[0],[]⟩,⟨3,[0],[]⟩,⟨4,[0,3],[]⟩,⟨5,[0],[]⟩,⟨6,[0],[]⟩,⟨12,[0,3,6],[]⟩,⟨1,[3,6],[90000000]⟩,⟨7,[],[90000000]⟩,⟨8,[],[90000000]⟩,⟨9,[],[90000000]⟩,⟨10,[],[90000000]⟩,⟨11,[],[90000000]⟩,⟨13,[],[]⟩,⟨14,[],[]⟩] (by kernel_rfl) ?_
  simp(disch:=omega)only[go_sem,hcx]
  refine⟨by omega,by omega,?_⟩
  refine qa (yb s) ?_
  simp(disch:=omega)only[go_sem]
  refine qa (yb x) ?_
  simp(disch:=omega)only[go_sem]
  refine qa (ch) ?_
  simp(disch:=omega)only[go_sem]
  exact qc (i+1) [] (by show i+1≤_;omega) (by show S.length-(i+1)<S.length-i;omega) rfl (by simp(disch:=omega)only[go_sem];try omega) (by simp(disch:=omega)only[go_sem])
 ·simp(disch:=omega)only[go_sem,h1]
  exact qu
def dgO(n:Nat)(y:ExV):Nat→List (Option ExV)
 |0=>List.replicate (n*n) none
 |k+1=>(dgO n y k).set (k*n+k) (some y)
theorem Jx{n k:Nat}{y:ExV}:(dgO n y k).length=n*n:=by
 induction k with
 |zero=>simp[dgO]
 |succ k ih=>simp[dgO,ih]
def dgE(n:Nat)(y:ExV):List ExV:=(dgO n y n).map fun o=>o.getD ex0
theorem aHV(n:Nat)(y:ExV)(hn:n≤4):Con Tryz.prog 43 false [.v (.int .i64 n),.ag [.v (.bool (y).s),.sl (lim (y).m).length (qe (lim (y).m)),.v (.int .i64 (y).e)]] [] (isA (.sl (n*n) (qm ExV.cs (dgE n y)))):=by
 refine Con.frzA ?_
 have hq:=Qe hn
 have hz:((n:Int)*n).toNat=n*n:=by rw[←Int.natCast_mul];rfl
 have hz2:(n:Int)*n=((n*n:Nat):Int):=(Int.natCast_mul n n).symm
 have hz0:qm ocs (dgO n y 0)=zS (n*n) [.v (.bool false),.v (.slice none 0 0),.v (.int .i64 0)]:=aF7.symm
 refine Con.of_aw Tryz.func43 rfl Tryz.ntmps43 (by simp) (by simp) (by simp) (W.sound ?_)
 show @W Tryz.prog 25 ⟨_⟩ ⟨fun x σ=>@qU _ _ _ ⟨_⟩ _ ⟨_⟩ x σ⟩ _ _
 simp(disch:=omega)only[go_sem]
 rw[hz]
 refine⟨by rw[hz2];omega,?_⟩
 refine qj (fun i:Nat=>[(0,.v (.int .i64 n)),(3,.pt 3 0),(5,.rf 5 0 (n*n)),(6,.v (.int .i64 i))])
  (fun i=>[(3,.own 0 [.v (.bool y.s),.sl (lim y.m).length (qe (lim y.m)),.v (.int .i64 y.e)]),(5,.own 3 (qm ocs (dgO n y i)))]) (fun i=>i≤n) (fun i=>n-i) 0 (by omega)
  (Le.lst [(3,50000000),(5,120000000)] _ _ rfl (by simp(disch:=omega)only[go_sem]) (by simp(disch:=omega)only[go_sem,hz0];exact⟨amM,of_eq_true amO⟩)) ?_
 intro i hi
 simp(disch:=omega)only[go_sem]
 refine qg (fun c1=>?_) (fun c1=>?_)
 ·have hi2:i<n:=by omega
  have hx:=jc hi2 hi2
  have hl:=@Jx n i y
  have hset:=aPg (l:=dgO n y i) (i:=i*n+i) (x:=y) (by omega)
  have e1:(i:Int)*n+i=((i*n+i:Nat):Int):=by rw[Int.natCast_add,Int.natCast_mul]
  have e2:((n:Int)*i+i)=((i*n+i:Nat):Int):=by rw[Int.natCast_add,Int.natCast_mul,Int.mul_comm]
  simp(disch:=omega)only[go_sem,c1,e1,e2]
  rw[hset]
  exact⟨⟨by omega,by omega⟩,by rw[hl];omega,qc (i+1) [] (by show i+1≤n;omega) (by show n-(i+1)<n-i;omega) rfl (by simp(disch:=omega)only[go_sem];try omega) (by simp(disch:=omega)only[go_sem,dgO])⟩
 ·simp(disch:=omega)only[go_sem,c1]
  obtain rfl:i=n:=by omega
  have hcut:cut (qm ocs (dgO i y i)) 0 (i*i*3)=qm ocs (dgO i y i):=by
   unfold cut
   rw[List.drop_zero,List.take_of_length_le (by rw[asd,Jx];exact Nat.le_refl _)]
  refine qi [(0,5)] [.own 3 (qm ocs (dgO i y i))] [] [.rf 0 0 (i*i)] rfl (by simp(disch:=omega)only[go_sem]) (by simp(disch:=omega)only[go_sem]) (by simp) (by simp) ?_
  show qG _ 6 _=_
  simp(disch:=omega)only[go_sem,ze,hcut,aF8]
  rfl
end Go.Ab
namespace Go.Ab
open Go Go.Proofs
def qZ(s:SpV):ExV:=s.hi.plus s.lo.neg
theorem age{s:SpV}{lo hi:Int}(hs:s.bd lo hi):(qZ s).bd lo (hi+1):=ExV.plus_bd hs.2 (ExV.neg_bd hs.1)
theorem aHJ(s:SpV)(hs:s.bd (-390000) 390000):Con Tryz.prog 116 false [.ag [.v (.bool (s).lo.s),.sl (lim (s).lo.m).length (qe (lim (s).lo.m)),.v (.int .i64 (s).lo.e),.v (.bool (s).hi.s),.sl (lim (s).hi.m).length (qe (lim (s).hi.m)),.v (.int .i64 (s).hi.e)]] [] (isA (.ag [.v (.bool (qZ s).s),.sl (lim (qZ s).m).length (qe (lim (qZ s).m)),.v (.int .i64 (qZ s).e)])):=by
 refine Con.frzA ?_
 refine Con.of_w (rs:=[.cell 2 117]) Tryz.func116 rfl Tryz.ntmps116 rfl ?_
 simp(disch:=omega)only[go_sem]
 refine qa (yY s.hi s.lo (hs.2.mono (by omega) (by omega)) (hs.1.mono (by omega) (by omega))) ?_
 simp(disch:=omega)only[go_sem]
 exact ql (hp:=by simp(disch:=omega)only[go_sem,qZ])
set_option maxRecDepth 100000 in
theorem Qb(n:Nat)(S:List SpV)(h:imatV n S):Con Tryz.prog 39 false [.ag [.v (.int .i64 (n)),.sl (S).length (qm SpV.cs (S))]] [] (isA (.tu [.ag [.v (.bool ((q9 n (S.map qZ) n).tel).s),.sl (lim ((q9 n (S.map qZ) n).tel).m).length (qe (lim ((q9 n (S.map qZ) n).tel).m)),.v (.int .i64 ((q9 n (S.map qZ) n).tel).e)],.v (.bool (q9 n (S.map qZ) n).fit)])):=by
 refine Con.frzA ?_
 have l1:=h.l16
 have hb:=h.bd
 have hbw:gbd (-390000) 390000 (S.map qZ):=fun x hx=>by
  obtain⟨s,hs,rfl⟩:=List.mem_map.1 hx
  exact(age (hb s hs)).mono (by omega) (by omega)
 have hlw:(S.map qZ).length=n*n:=by rw[List.length_map];exact h.len
 have cn:=ZP n (S.map qZ) h.n4 hlw hbw
 have bn:=ZJ (lo:= -3000) (hi:=4601) (n:=n) (l:=S.map qZ) hlw (fun x hx=>by
  obtain⟨s,hs,rfl⟩:=List.mem_map.1 hx
  exact(age (hb s hs))) (by omega) n (Nat.le_refl n)
 have ct:=aRp (q9 n (S.map qZ) n) (bn.mono (by omega) (by have:=h.n4;omega))
 rw[List.length_map]at cn
 generalize q9 n (S.map qZ) n=z at*
 refine Con.of_aw Tryz.func39 rfl Tryz.ntmps39 (by simp) (by simp) (by simp) (AW.seqLe (E:=[(1,.pt 1 0),(2,.pt 2 0)]) (H:=[(1,.own 0 [.v (.int .i64 n),.sl S.length (qm SpV.cs S)]),(2,.own 0 [.v (.bool false),.v (.slice none 0 0),.v (.int .i64 0)])]) (W.sound ?_)
  (AW.seqLe (E:=[(1,.pt 1 0),(2,.pt 2 0)]) (H:=[(1,.own 0 [.v (.int .i64 n),.sl S.length (qm SpV.cs S)]),(2,.own 0 [.v (.bool false),.v (.slice none 0 0),.v (.int .i64 0)])]) (W.sound ?_)
  (AW.seqLe (E:=[(1,.pt 1 0),(2,.pt 2 0),(4,.pt 4 0)]) (H:=[(1,.own 0 [.v (.int .i64 n),.sl S.length (qm SpV.cs S)]),(2,.own 0 [.v (.bool false),.v (.slice none 0 0),.v (.int .i64 0)]),(4,.own 0 [.v (.int .i64 n),.v (.slice none 0 0)])]) (W.sound ?_)
  (AW.seqLe (E:=[(2,.pt 2 0),(4,.pt 4 0)]) (H:=[(2,.own 0 [.v (.bool false),.v (.slice none 0 0),.v (.int .i64 0)]),(4,.own 0 [.v (.int .i64 n),.sl S.length (qm ExV.cs (S.map qZ))])]) (W.sound ?_) (W.sound ?_)))))
 ·show @W Tryz.prog 35 ⟨_⟩ ⟨_⟩ _ _
  simp(disch:=omega)only[go_sem]
  exact Le.lst [(1,30000000),(2,40000000)] _ _ rfl (by simp(disch:=omega)only[go_sem]) (by simp(disch:=omega)only[go_sem])
 ·show @W Tryz.prog 35 ⟨_⟩ ⟨_⟩ _ _
  simp(disch:=omega)only[go_sem]
  refine qb (zy n S h) ?_
  simp(disch:=omega)only[go_sem]
  exact Le.lst [(1,1),(2,2)] _ _ rfl (by simp(disch:=omega)only[go_sem]) (by simp(disch:=omega)only[go_sem])
 ·show @W Tryz.prog 35 ⟨_⟩ ⟨_⟩ _ _
  simp(disch:=omega)only[go_sem]
  exact Le.lst [(1,1),(2,2),(4,60000000)] _ _ rfl (by simp(disch:=omega)only[go_sem]) (by simp(disch:=omega)only[go_sem])
 ·show @W Tryz.prog 35 ⟨_⟩ ⟨_⟩ _ _
  simp(disch:=omega)only[go_sem]
  refine qj (fun i:Nat=>[(15,.sl S.length (qm SpV.cs S)),(16,.v (.int .i64 S.length)),(17,.v (.int .i64 i)),(2,.pt 2 0),(4,.pt 4 0)])
   (fun i=>[(2,.own 0 [.v (.bool false),.v (.slice none 0 0),.v (.int .i64 0)]),(4,.own 0 [.v (.int .i64 n),.rf 5 0 i]),(5,.own 3 (qm ExV.cs (mpT S qZ i)))]) (fun i=>i≤S.length) (fun i=>S.length-i) 0 (by omega)
   ((Le.ghostC 4 1 5 3 (zo:=0) (cs:=[.v (.int .i64 n),.v (.slice none 0 0)]) (by simp(disch:=omega)only[go_sem]) rfl (by simp(disch:=omega)only[go_sem])).trans (Le.lst [(2,2),(4,4)] _ _ rfl (by simp(disch:=omega)only[go_sem]) (by simp(disch:=omega)only[go_sem,jx,Q7,List.set_cons_succ,List.set_cons_zero]))) ?_
  intro i hi
  simp(disch:=omega)only[go_sem]
  refine qg (fun h1=>?_) (fun h1=>?_)
  ·have hi2:i<S.length:=by omega
   have hci:=jr hi2
   have hcut:=zA (zE (F:=qZ) hi)
   have hml:=zE (F:=qZ) hi
   have hs:=jy (F:=qZ) sp0 hi2
   have hx:=jf hb hi2
   generalize S.getD i sp0=x at*
   simp(disch:=omega)only[go_sem,h1,hci]
   refine⟨by omega,by omega,?_⟩
   refine qo rfl [⟨0,[],[]⟩,⟨1,[],[]⟩,⟨2,[1],[]⟩,⟨3,[1],[]⟩,⟨4,[1],[]⟩,⟨5,[1],[]⟩,⟨6,[],[]⟩,⟨7,[],[]⟩,⟨8,[],[]⟩] (by kernel_rfl) ?_
   simp(disch:=omega)only[go_sem]
   refine qa (yb x) ?_
   simp(disch:=omega)only[go_sem]
   have cw:=aHJ x ⟨hx.1.mono (by omega) (by omega),hx.2.mono (by omega) (by omega)⟩
   generalize qZ x=w' at*
   refine qa (cw) ?_
   simp(disch:=omega)only[go_sem]
   simp(disch:=omega)only[go_sem,hcut,yX]
   refine⟨⟨by rw[hml];exact Nat.le_refl _,by omega⟩,qc (i+1) [(5,290000000)] (by show i+1≤_;omega) (by show S.length-(i+1)<S.length-i;omega) rfl (by simp(disch:=omega)only[go_sem];try omega) (by simp(disch:=omega)only[go_sem,hs])⟩
  ·simp(disch:=omega)only[go_sem,h1]
   obtain rfl:i=S.length:=by omega
   exact(Le.frz 5 (z:=3) (ks:=qm ExV.cs (mpT S qZ S.length)) (by simp(disch:=omega)only[go_sem]) rfl (by simp(disch:=omega)only[go_sem])).trans (Le.lst [(2,2),(4,4)] _ _ rfl (by simp(disch:=omega)only[go_sem]) (by simp(disch:=omega)only[go_sem,yl,zA (l:=S.map qZ) (k:=S.length) (List.length_map ..)]))
 show @W Tryz.prog 35 ⟨_⟩ ⟨fun x σ=>@qU _ _ _ ⟨_⟩ _ ⟨_⟩ x σ⟩ _ _
 simp(disch:=omega)only[go_sem]
 refine qa (cn) ?_
 simp(disch:=omega)only[go_sem]
 refine qa (ct) ?_
 simp(disch:=omega)only[go_sem]
 exact ql
end Go.Ab
namespace Go.Ab
open Go Go.Proofs
theorem ab2{n K:Nat}{S:List SpV}{X:List ExV}(hK:3000≤K)(h1:1≤n)(h4:n≤4)(hl:S.length=n*n)(eS:∀i,i<n*n→(S.getD i sp0).eK K)(hX:matV n X)(h:inM K S X (n*n))(hf:S.all SpV.fit=true):
  fN n S=n∧fT S=S.map SpV.can∧imatV n (fT S)∧alP (fT S) X (n*n)=true:=by
 have he:∀s∈S,s.eK K∧s.lo.val K≤s.hi.val K:=fun s hs=>by
  obtain⟨i,hi,rfl⟩:=List.getElem_of_mem hs
  have e:S.getD i sp0=S[i]:=by rw[List.getD_eq_getElem?_getD,List.getElem?_eq_getElem hi];rfl
  rw[←e]
  exact⟨eS i (by omega),aJP (by omega) (h i (by omega))⟩
 obtain⟨f1,f2,f3⟩:=aZb hK h1 h4 hl he hf
 refine⟨f1,f2,by rw[f2];exact f3,?_⟩
 rw[f2]
 exact aUS hK f3 hX fun i hi=>by
  rw[zO (by omega) sp0]
  exact(asR (eS i hi)).2 (h i hi)
theorem aIx{K:Nat}{y:ExV}(h0:y.s=false):0≤y.val K:=by
 obtain⟨_,m,e⟩:=y
 obtain rfl:_=false:=h0
 show(0:Int)≤dv K false m e
 unfold dv sv
 exact Int.mul_nonneg (by simp) (Int.le_of_lt (aaX _))
theorem aHp{n:Nat}{S:List SpV}{X:List ExV}{y:ExV}(h:imatV n S)(hX:matV n X)(iX:inM 3001 S X (n*n))(hy:y.ok=true)(h0:y.s=false)(hf:(S.map fun s=>s.fat y).all SpV.fit=true):
  fN n (S.map fun s=>s.fat y)=n∧fT (S.map fun s=>s.fat y)=(S.map fun s=>s.fat y).map SpV.can∧imatV n (fT (S.map fun s=>s.fat y))∧alP (fT (S.map fun s=>s.fat y)) X (n*n)=true:=by
 have ey: -((3001:Nat):Int)≤y.e:=by have:=(z8 hy).1.1;omega
 have hn:=aIx (K:=3001) h0
 refine ab2 (K:=3001) (by omega) h.n1 h.n4 (by rw[List.length_map];exact h.len) (fun i hi=>?_) hX (fun i hi=>?_) hf
 ·rw[zO (by rw[h.len];exact hi) sp0]
  have:=h.eK (K:=3001) (by omega) hi
  exact⟨yD this.1 ey,yD this.2 ey⟩
 ·rw[zO (by rw[h.len];exact hi) sp0]
  have:=h.eK (K:=3001) (by omega) hi
  obtain⟨a,b⟩:=iX i hi
  constructor
  ·show((S.getD i sp0).lo.plus y.neg).val 3001*1≤_
   rw[jw (y:=ExV.neg y) this.1 ey,afj];omega
  ·show _≤((S.getD i sp0).hi.plus y).val 3001*1
   rw[jw this.2 ey];omega
theorem aF2{n:Nat}{S:List SpV}{X:List ExV}(h:imatV n S)(hX:matV n X)(iX:inM 3001 S X (n*n))(hf:(S.map fun s=>s.out (-4)).all SpV.fit=true):
  fN n (S.map fun s=>s.out (-4))=n∧fT (S.map fun s=>s.out (-4))=(S.map fun s=>s.out (-4)).map SpV.can∧imatV n (fT (S.map fun s=>s.out (-4)))∧alP (fT (S.map fun s=>s.out (-4))) X (n*n)=true:=by
 refine ab2 (K:=3001) (by omega) h.n1 h.n4 (by rw[List.length_map];exact h.len) (fun i hi=>?_) hX (fun i hi=>?_) hf
 ·rw[zO (by rw[h.len];exact hi) sp0]
  have:=SpV.out_bd (low:= -4) (h.bd _ (Qy (by rw[h.len];exact hi))) (by omega) (by omega)
  have e1:=this.1.2.1
  have e2:=this.2.2.1
  exact⟨by omega,by omega⟩
 ·rw[zO (by rw[h.len];exact hi) sp0]
  have:=h.eK (K:=3001) (by omega) hi
  obtain⟨a,b⟩:=iX i hi
  have r1:=(aJB (K:=3001) (low:= -4) this.1 (by omega)).1
  have r2:=(aJB (K:=3001) (low:= -4) this.2 (by omega)).2
  constructor
  ·show((S.getD i sp0).lo.rnd (-4) 3).val 3001*1≤_;omega
  ·show _≤((S.getD i sp0).hi.rnd (-4) 2).val 3001*1;omega
theorem aRh{K:Nat}{s:SpV}{N lo hi:Int}(hK:20≤K)(hs:s.bd lo hi)(es:s.eK K)(h:inS K s N 1):inS K (s.divd 3 (-20)) N 3∧(s.divd 3 (-20)).eK K:=by
 have hn:(exN 3).m≠0:=by decide
 have hv:(exN 3).val 0=3:=by decide+kernel
 have hp:0<p2 K:=aaX K
 have bd:∀(x:ExV) (md:Int),x.bd lo hi→ -(K:Int)≤(x.over (exN 3) (-20) md).e:=fun x md hx=>by
  have:=(ExV.over_bd (x:=x) (y:=exN 3) (low:= -20) (mode:=md) (l2:=0) (hi:=hi.natAbs+2+(hi-lo).natAbs) hx (by show(0:Int)≤0;omega) (by omega) (by omega)).2.1
  omega
 have d:∀x:ExV, -(K:Int)≤x.e→(x.over (exN 3) (-20) 3).val K*3≤x.val K∧x.val K≤(x.over (exN 3) (-20) 2).val K*3:=fun x hx=>by
  have:=(aF1 (x:=x) (y:=exN 3) (low:= -20) (Kx:=K) (Ky:=0) (Kz:=K) hn hx (by show-((0:Nat):Int)≤0;omega) (by omega)).1 rfl
  rw[hv,Nat.zero_add]at this
  exact⟨Int.le_of_mul_le_mul_right this.1 hp,Int.le_of_mul_le_mul_right this.2 hp⟩
 have e3:∀md:Int,Go.Ab.eK K (zw (fun x y=>x.over y (-20) md) s ⟨exN 3,exN 3⟩):=fun md x hx=>by
  simp only[zw,List.mem_cons,List.not_mem_nil,or_false]at hx
  rcases hx with rfl|rfl|rfl|rfl
  ·exact bd _ _ hs.1
  ·exact bd _ _ hs.1
  ·exact bd _ _ hs.2
  ·exact bd _ _ hs.2
 obtain⟨l1,l2⟩:=Q2 (e3 3)
 obtain⟨m1,m2⟩:=Je (e3 2)
 have a:=l1 (s.lo.over (exN 3) (-20) 3) (by simp[zw])
 have b:=m1 (s.hi.over (exN 3) (-20) 2) (by simp[zw])
 have c:=(d s.lo es.1).1
 have f:=(d s.hi es.2).2
 obtain⟨h1,h2⟩:=h
 refine⟨⟨?_,?_⟩,l2,m2⟩
 ·show(qN (zw (fun x y=>x.over y (-20) 3) s ⟨exN 3,exN 3⟩)).val K*3≤N
  omega
 ·show N≤(zf (zw (fun x y=>x.over y (-20) 2) s ⟨exN 3,exN 3⟩)).val K*3
  omega
theorem agt{n K K':Nat}{S S':List SpV}{N N':Nat→Nat→Int}{D:Int}(hD:0<D){i j:Nat}(eS:∀i,i<n*n→(S.getD i sp0).eK K)(eS':∀i,i<n*n→(S'.getD i sp0).eK K')(h:∀i t,i<n→t<n→inS K (S.getD (i*n+t) sp0) (N i t) D)(h':∀t j,t<n→j<n→inS K' (S'.getD (t*n+j) sp0) (N' t j) 1)(hi:i<n)(hj:j<n):
  ∀k,k≤n→inS (K+K') (jv n S S' i j k) (qB (fun t=>N i t*N' t j) k) D∧(jv n S S' i j k).eK (K+K')
 |0,_=>by
  rw[J9]
  have e:ex0.val (K+K')=0:=Xh _
  refine⟨⟨?_,?_⟩,⟨?_,?_⟩⟩
  ·show ex0.val (K+K')*D≤0;rw[e,Int.zero_mul];exact Int.le_refl _
  ·show 0≤ex0.val (K+K')*D;rw[e,Int.zero_mul];exact Int.le_refl _
  ·show-((K+K':Nat):Int)≤0;omega
  ·show-((K+K':Nat):Int)≤0;omega
 |k+1,hk=>by
  obtain⟨h1,h2⟩:=agt hD eS eS' h h' hi hj k (by omega)
  have ia:=jc hi (show k<n by omega)
  have ib:=jc (show k<n by omega) hj
  have t:=asQ (eS _ ia) (eS' _ ib) hD (by omega) (h i k hi (by omega)) (h' k j (by omega) hj)
  rw[Int.mul_one]at t
  have et:=SpV.times_eK (eS _ ia) (eS' _ ib)
  rw[Ya]
  exact⟨aGI h2 et h1 t,SpV.plus_eK h2 et⟩
theorem atl{n:Nat}{y:ExV}{i j:Nat}(hi:i<n)(hj:j<n):∀k,k≤n→(dgO n y k).getD (i*n+j) none=if i=j∧i<k then some y else none
 |0,_=>by
  rw[if_neg (by omega)]
  simp[dgO,List.getD_eq_getElem?_getD,List.getElem?_replicate,jc hi hj]
 |k+1,hk=>by
  have ih:=atl (y:=y) hi hj k (by omega)
  have hl:=@Jx n k y
  show((dgO n y k).set (k*n+k) (some y)).getD (i*n+j) none=_
  by_cases hk2:i=k∧j=k
  ·obtain⟨rfl,rfl⟩:=hk2
   have:=jc hi hi
   rw[if_pos ⟨rfl,by omega⟩,List.getD_eq_getElem?_getD,List.getElem?_set_self (by omega)];rfl
  ·have hne:k*n+k≠i*n+j:=fun e=>by
    have a1:=(@aJI n k k (by omega))
    have a2:=(@aJI n i j hj)
    rw[e]at a1
    exact hk2 ⟨by omega,by omega⟩
   rw[List.getD_eq_getElem?_getD,List.getElem?_set_ne hne,←List.getD_eq_getElem?_getD,ih]
   by_cases c:i=j∧i<k
   ·rw[if_pos c,if_pos ⟨c.1,by omega⟩]
   ·rw[if_neg c,if_neg (by omega)]
theorem afy{n:Nat}{y:ExV}{i j:Nat}(hi:i<n)(hj:j<n):(dgE n y).getD (i*n+j) ex0=if i=j then y else ex0:=by
 unfold dgE
 rw[QL (by rw[Jx];exact jc hi hj) none,atl hi hj n (Nat.le_refl n)]
 by_cases c:i=j
 ·rw[if_pos ⟨c,hi⟩,if_pos c];rfl
 ·rw[if_neg (fun h=>c h.1),if_neg c];rfl
theorem atk{n:Nat}{y:ExV}:∀k,∀o∈dgO n y k,o=none∨o=some y
 |0,o,h=>.inl (List.eq_of_mem_replicate h)
 |k+1,o,h=>by
  rcases List.mem_or_eq_of_mem_set h with h|rfl
  ·exact atk k o h
  ·exact .inr rfl
def ex3:ExV:=⟨false,3,0⟩
theorem aJ1{n:Nat}(h1:1≤n)(h4:n≤4):matV n (dgE n ex3):=⟨h1,h4,by unfold dgE;rw[List.length_map];exact Jx,fun x hx=>by
 obtain⟨o,ho,rfl⟩:=List.mem_map.1 hx
 rcases atk n o ho with rfl|rfl
 ·decide+kernel
 ·decide+kernel⟩
theorem aHw{n:Nat}{S:List SpV}{X:List ExV}(h:imatV n S)(hX:matV n X)(iX:inM 3001 S X (n*n))(hf:(S.map fun s=>s.divd 3 (-20)).all SpV.fit=true):
  fN n (S.map fun s=>s.divd 3 (-20))=n∧imatV n (fT (S.map fun s=>s.divd 3 (-20)))∧((qE n (fT (S.map fun s=>s.divd 3 (-20))) ((dgE n ex3).map ptS)).all SpV.fit=true→
   fN n (qE n (fT (S.map fun s=>s.divd 3 (-20))) ((dgE n ex3).map ptS))=n∧imatV n (fT (qE n (fT (S.map fun s=>s.divd 3 (-20))) ((dgE n ex3).map ptS)))∧alP (fT (qE n (fT (S.map fun s=>s.divd 3 (-20))) ((dgE n ex3).map ptS))) X (n*n)=true):=by
 have key:=fun i (hi:i<n*n)=>aRh (K:=3001) (by omega) (h.bd _ (Qy (by rw[h.len];exact hi))) (h.eK (K:=3001) (by omega) hi) (iX i hi)
 have gm:∀i,i<n*n→(S.map fun s=>s.divd 3 (-20)).getD i sp0=(S.getD i sp0).divd 3 (-20):=fun i hi=>zO (by rw[h.len];exact hi) sp0
 have hl:(S.map fun s=>s.divd 3 (-20)).length=n*n:=by rw[List.length_map];exact h.len
 have he:∀s∈S.map (fun s=>s.divd 3 (-20)),s.eK 3001∧s.lo.val 3001≤s.hi.val 3001:=fun s hs=>by
  obtain⟨i,hi,rfl⟩:=List.getElem_of_mem hs
  have hi':i<n*n:=by rw[←hl];exact hi
  have e:(S.map fun s=>s.divd 3 (-20)).getD i sp0=(S.map fun s=>s.divd 3 (-20))[i]:=by rw[List.getD_eq_getElem?_getD,List.getElem?_eq_getElem hi];rfl
  rw[←e,gm i hi']
  exact⟨(key i hi').2,aJP (by omega) (key i hi').1⟩
 obtain⟨f1,f2,f3⟩:=aZb (K:=3001) (by omega) h.n1 h.n4 hl he hf
 rw[←f2]at f3
 refine⟨f1,f3,fun hg=>?_⟩
 have hD:=aJ1 h.n1 h.n4
 have qin:∀i,i<n*n→inS 3001 ((fT (S.map fun s=>s.divd 3 (-20))).getD i sp0) ((X.getD i ex0).val 3001) 3:=fun i hi=>by
  rw[f2,zO (by rw[hl];exact hi) sp0,gm i hi]
  exact(asR (key i hi).2).2 (key i hi).1
 generalize fT (S.map fun s=>s.divd 3 (-20))=Q at*
 have dget:∀t,t<n*n→((dgE n ex3).map ptS).getD t sp0=ptS ((dgE n ex3).getD t ex0):=fun t ht=>zO (by rw[hD.len];exact ht) ex0
 have de:∀t,t<n*n→ -((0:Nat):Int)≤((dgE n ex3).getD t ex0).e:=fun t ht=>by
  have e:t/n*n+t % n=t:=aJQ
  have h1:=h.n1
  rw[←e,afy ((Nat.div_lt_iff_lt_mul (by omega)).2 ht) (Nat.mod_lt t (by omega))]
  split
  ·show-((0:Nat):Int)≤0;omega
  ·show-((0:Nat):Int)≤0;omega
 have s:=fun i j (hi:i<n) (hj:j<n)=>agt (n:=n) (K:=3001) (K':=0) (S:=Q) (S':=(dgE n ex3).map ptS) (N:=fun i t=>(X.getD (i*n+t) ex0).val 3001) (N':=fun t j=>((dgE n ex3).getD (t*n+j) ex0).val 0) (D:=3) (by omega) (fun i hi=>f3.eK (by omega) hi)
  (fun t ht=>by rw[dget t ht];exact⟨de t ht,de t ht⟩) (fun i t hi ht=>qin _ (jc hi ht)) (fun t j ht hj=>by
   rw[dget _ (jc ht hj)]
   have:=aUN (K:=0) (x:=(dgE n ex3).getD (t*n+j) ex0) (D:=1)
   rw[Int.mul_one]at this
   exact this) hi hj n (Nat.le_refl n)
 have sv':∀i j,i<n→j<n→qB (fun t=>(X.getD (i*n+t) ex0).val 3001*((dgE n ex3).getD (t*n+j) ex0).val 0) n=(X.getD (i*n+j) ex0).val 3001*3:=fun i j hi hj=>by
  rw[jo (j:=j) hj fun t ht hne=>by
   rw[afy ht hj,if_neg hne,Xh,Int.mul_zero]]
  rw[afy hj hj,if_pos rfl,show ex3.val 0=3 by decide+kernel]
 have fin:∀i,i<n*n→inS 3001 ((qE n Q ((dgE n ex3).map ptS)).getD i sp0) ((X.getD i ex0).val 3001) 1∧((qE n Q ((dgE n ex3).map ptS)).getD i sp0).eK 3001:=fun i hi=>by
  have h1:=h.n1
  have hi1:=(Nat.div_lt_iff_lt_mul (show 0<n by omega)).2 hi
  have hi2:=Nat.mod_lt i (show 0<n by omega)
  obtain⟨⟨a,b⟩,c⟩:=s (i/n) (i % n) hi1 hi2
  rw[sv' _ _ hi1 hi2,aJQ]at a b
  unfold qE
  rw[aP8 hi]
  have a:=Int.le_of_mul_le_mul_right a (by omega)
  have b:=Int.le_of_mul_le_mul_right b (by omega)
  exact⟨⟨by rw[Int.mul_one];exact a,by rw[Int.mul_one];exact b⟩,c⟩
 obtain⟨g1,g2,g3,g4⟩:=ab2 (K:=3001) (by omega) h.n1 h.n4 Qn (fun i hi=>(fin i hi).2) hX (fun i hi=>(fin i hi).1) hg
 exact⟨g1,g3,g4⟩
theorem aPJ{s:SpV}{x:ExV}(hs:s.ok=true)(hx:x.ok=true)(h:arM s x=true):alJ s (ptS x)=true∧alJ (ptS x) s=true:=by
 unfold arM at h
 simp only[Bool.and_eq_true,decide_eq_true_eq]at h
 obtain⟨h1,h2⟩:=h
 have o:=JS hs
 have a1:=(aPI o.1 hx).2
 have a2:=(asA o.2.1 hx).2
 have b1:=(aPI hx o.1).2
 have b2:=(asA hx o.2.1).2
 unfold alJ jZ ptS
 dsimp only
 rw[a1,a2,b1,b2]
 exact⟨decide_eq_true (by split<;>split<;>omega),decide_eq_true (by split<;>split<;>omega)⟩
end Go.Ab
namespace Go.Ab
open Go Go.Proofs
theorem J0:Con Tryz.prog 39 false [.ag [.v (.int .i64 0),.sl 0 []]] [] (isA (.tu [.ag [.v (.bool (false)),.sl (lim (0)).length (qe (lim (0))),.v (.int .i64 (0))],.v (.bool false)])):=by
 refine Con.frzA ?_
 have c1:=zY 0 [] (by simp) (by simp)
 rw[show XL 0 []=false by rfl]at c1
 change Con _ _ _ [.ag [.v (.int .i64 0),.sl 0 []]] _ _ at c1
 rw[qs]
 refine Con.of_w (rs:=[.cell 2 42,.tmp 3]) Tryz.func39 rfl Tryz.ntmps39 rfl ?_
 simp(disch:=omega)only[go_sem]
 refine qb (c1) ?_
 simp(disch:=omega)only[go_sem]
 exact ql
theorem Xx(n:Nat)(D:List SpV)(hD:imatV n D):Con Tryz.prog 17 false [.ag [.v (.int .i64 (((0:Nat):Int))),.sl (([]:List SpV)).length (qm SpV.cs (([]:List SpV)))],.ag [.v (.int .i64 (n)),.sl (D).length (qm SpV.cs (D))]] [] (isA (.tu [.ag [.v (.int .i64 (((0:Nat):Int))),.sl (([]:List SpV)).length (qm SpV.cs (([]:List SpV)))],.v (.bool false)])):=by
 have c:=JJ 0 n [] (D.map SpV.iv) (by simp) (by simp) (by rw[List.length_map];exact hD.l16) (Jn hD) rfl
 rw[Z5,List.length_map]at c
 exact c
theorem aIw{K:Nat}{s:SpV}(hs:s.eK K): -(K:Int)≤(qZ s).e:=yD (y:=ExV.neg s.lo) hs.2 hs.1
theorem agd{K:Nat}{s:SpV}(hs:s.eK K):(qZ s).val K=s.hi.val K-s.lo.val K:=by
 unfold qZ
 rw[jw (y:=ExV.neg s.lo) hs.2 hs.1,afj];omega
theorem auT{K:Nat}{s:SpV}{y:ExV}(es:s.eK K)(ey: -(K:Int)≤y.e)(hle:s.lo.val K≤s.hi.val K)(hn:0≤y.val K):(((qZ s).val K).natAbs:Int)≤(((qZ (s.fat y).can).val K).natAbs:Int):=by
 have ef:(s.fat y).eK K:=⟨yD es.1 ey,yD es.2 ey⟩
 have c1:(s.fat y).can.hi.val K=(s.fat y).hi.val K:=yq ef.2
 have c2:(s.fat y).can.lo.val K=(s.fat y).lo.val K:=yq ef.1
 have d1:(s.fat y).hi.val K=s.hi.val K+y.val K:=jw es.2 ey
 have d2:(s.fat y).lo.val K=s.lo.val K-y.val K:=by
  show(s.lo.plus y.neg).val K=_
  rw[jw (y:=ExV.neg y) es.1 ey,afj];omega
 rw[agd es,agd (SpV.can_eK ef),c1,c2,d1,d2]
 omega
theorem tE1{K:Nat}{S:List SpV}(hS:∀s∈S,s.eK K):Go.Ab.eK K (S.map qZ):=fun x hx=>by
  obtain⟨s,hs,rfl⟩:=List.mem_map.1 hx
  exact aIw (hS s hs)
theorem te3{S:List SpV}{y:ExV}:((S.map fun s=>s.fat y).map SpV.can).map qZ=S.map fun s=>qZ (s.fat y).can:=by
  simp only[List.map_map,Function.comp_def]
theorem tE2{K:Nat}{S:List SpV}{y:ExV}(hS:∀s∈S,s.eK K)(ey: -(K:Int)≤y.e):Go.Ab.eK K (S.map fun s=>qZ (s.fat y).can):=fun x hx=>by
  obtain⟨s,hs,rfl⟩:=List.mem_map.1 hx
  have a:(s.fat y).eK K:=⟨yD (hS s hs).1 ey,yD (hS s hs).2 ey⟩
  exact aIw (SpV.can_eK a)
theorem tE4{K n:Nat}{S:List SpV}{f:SpV→ExV}(hl:S.length=n*n)(E1:Go.Ab.eK K (S.map f)):(q9 n (S.map f) n).val K=Qi (fun j=>qB (fun i=>((mv K (S.map f) n i j).natAbs:Int)) n) n∧ -(K:Int)≤(q9 n (S.map f) n).e:=aa2 (n:=n) E1 (by rw[List.length_map];exact hl) n (Nat.le_refl n)
theorem tmx{n:Nat}:∀f g:Nat→Nat→Int,(∀i j,i<n→j<n→f i j≤g i j)→Qi (fun j=>qB (fun i=>f i j) n) n≤Qi (fun j=>qB (fun i=>g i j) n) n:=fun _f g hfg=>
  agC (Zl _ _) fun j hj=>Int.le_trans (agq fun i hi=>hfg i j hi hj) (agD (fun j=>qB (fun i=>g i j) n) hj)
theorem bjb{K n:Nat}{S:List SpV}{f:SpV→ExV}{i j:Nat}(ix:i*n+j<S.length):mv K (S.map f) n i j=(f (S.getD (i*n+j) sp0)).val K:=by
 unfold mv
 rw[QL ix sp0]
theorem bdv{n K:Nat}{S:List SpV}{f g:SpV→ExV}(hl:S.length=n*n)(h1:Go.Ab.eK K (S.map f))(h2:Go.Ab.eK K (S.map g))(h:∀s∈S,(((f s).val K).natAbs:Int)≤(((g s).val K).natAbs:Int)):
  (q9 n (S.map f) n).val K≤(q9 n (S.map g) n).val K:=by
 rw[(tE4 hl h1).1,(tE4 hl h2).1]
 refine tmx _ _ fun i j hi hj=>?_
 have ix:i*n+j<S.length:=by rw[hl];exact jc hi hj
 have:=h _ (Qy ix)
 rw[bjb ix,bjb ix]
 exact this
theorem amS{n K:Nat}{S:List SpV}{y:ExV}(hl:S.length=n*n)(hS:∀s∈S,s.eK K∧s.lo.val K≤s.hi.val K)(ey: -(K:Int)≤y.e)(hn:0≤y.val K):
  (q9 n (S.map qZ) n).val K≤(q9 n (((S.map fun s=>s.fat y).map SpV.can).map qZ) n).val K∧ -(K:Int)≤(q9 n (S.map qZ) n).e∧ -(K:Int)≤(q9 n (((S.map fun s=>s.fat y).map SpV.can).map qZ) n).e:=by
 have E1:=tE1 fun s hs=>(hS s hs).1
 have E2:=tE2 (fun s hs=>(hS s hs).1) ey
 rw[te3]
 exact⟨bdv hl E1 E2 fun s hs=>auT (hS s hs).1 ey (hS s hs).2 hn,(tE4 hl E1).2,(tE4 hl E2).2⟩
theorem aKb{n:Nat}{S:List SpV}{y:ExV}(h:imatV n S)(hy:y.ok=true)(h0:y.s=false)(hw:(q9 n (S.map qZ) n).fit=true)(hw':(q9 n (((S.map fun s=>s.fat y).map SpV.can).map qZ) n).fit=true):
  (q9 n (S.map qZ) n).tel.val 3000≤(q9 n (((S.map fun s=>s.fat y).map SpV.can).map qZ) n).tel.val 3000:=by
 obtain⟨a,e1,e2⟩:=amS (K:=3000) (y:=y) h.len (fun s hs=>⟨(Qx (h.ok s hs)).1,(Qx (h.ok s hs)).2.1⟩) (z8 hy).1.1 (aIx h0)
 rw[arC hw,arC hw',yq e1,yq e2]
 exact a
theorem aHQ(n:Nat)(S:List SpV)(h:imatV n S)(s:Bool)(xs:List Int)(e:Int)(hd:xs.length≤200):
  ∃(N:Nat) (F:List SpV) (f:Bool),Con Tryz.prog 35 false [.ag [.v (.int .i64 (n)),.sl (S).length (qm SpV.cs (S))],.ag [.v (.bool s),.sl xs.length (qe xs),.v (.int .i64 e)]] [] (isA (.tu [.ag [.v (.int .i64 (N)),.sl (F).length (qm SpV.cs (F))],.v (.bool f)]))∧(f=false→N=0∧F=[])∧
   (f=true→∀X,matV n X→inM 3001 S X (n*n)→N=n∧imatV n F∧alP F X (n*n)=true∧((q9 n (S.map qZ) n).fit=true→(q9 n (F.map qZ) n).fit=true→(q9 n (S.map qZ) n).tel.val 3000≤(q9 n (F.map qZ) n).tel.val 3000)):=by
 cases hb:(dyB s xs e&& !s)
 ·have c:=yM n (S.map SpV.iv) ⟨s,xs,e⟩ (by rw[List.length_map];exact h.l16) (Jn h) hd (by rw[abf h];exact hb)
  rw[Z5,List.length_map]at c
  exact⟨0,[],false,c,fun _=>⟨rfl,rfl⟩,fun h=>by cases h⟩
 ·simp only[Bool.and_eq_true,Bool.not_eq_true']at hb
  obtain⟨hb,rfl⟩:=hb
  obtain⟨m,rfl, -⟩:=Q8 hb
  have hy:ExV.ok ⟨false,m,e⟩=true:=hb
  have c:=Xz n S ⟨false,m,e⟩ h hy rfl
  refine⟨_,_,_,c,fun hf=>?_,fun hf X hX iX=>?_⟩
  ·exact⟨if_neg (by rw[hf];simp),if_neg (by rw[hf];simp)⟩
  ·obtain⟨g1,g2,g3,g4⟩:=aHp h hX iX hy rfl hf
   refine⟨g1,g3,g4,?_⟩
   rw[g2]
   exact aKb h hy rfl
end Go.Ab
namespace Go.Ab
open Go Go.Proofs
theorem aGw{n:Nat}{S:List SpV}(h:imatV n S)(hf:(S.map y4).all ExV.fit=true):gN n (S.map y4)=n∧matV n (gT (S.map y4))∧inM 3001 S (gT (S.map y4)) (n*n):=by
 obtain⟨g1,g2,g3⟩:=bgV (l:=S.map y4) h.n1 h.n4 (by rw[List.length_map];exact h.len) hf
 rw[g2]
 exact⟨g1,g3,aP2 h⟩
set_option maxRecDepth 100000 in
set_option maxHeartbeats 4000000 in
theorem Ji(l:List UInt8)(hl:l.length≤9223372036854775807):Con Tryz.prog 7 true [.sl l.length (qk l)] [] (isA (.v (.bool true))):=by
 refine Con.of_w (rs:=[.tmp 2]) Tryz.func7 rfl Tryz.ntmps7 rfl ?_
 simp(disch:=omega)only[go_sem]
 refine qb (amj) ?_
 simp(disch:=omega)only[go_sem]
 refine zb (Zz l hl) (by simp(disch:=omega)only[go_sem]) ?_
 rintro r hs ⟨rfl, -,⟨k,M,⟨s,xs,e⟩,⟨a1,a2⟩,hd,rfl⟩⟩
 refine⟨by simp[qS],?_⟩
 unfold DyV.cs
 dsimp only at hd
 simp(disch:=omega)only[go_sem]
 have cA:=Xw k M a1 a2
 cases hA:XL k M
 ·rw[hA]at cA
  have cF:=yM k M ⟨s,xs,e⟩ a1 a2 hd (by rw[hA];rfl)
  unfold DyV.cs at cF
  dsimp only at cF
  refine qa (cF) ?_
  simp(disch:=omega)only[go_sem]
  refine qa (JI k M (-4) a1 a2 hA) ?_
  simp(disch:=omega)only[go_sem]
  refine qa (JK k M a1 a2 hA) ?_
  simp(disch:=omega)only[go_sem]
  refine qb (cA) ?_
  simp(disch:=omega)only[go_sem]
  refine qb (at2) ?_
  simp(disch:=omega)only[go_sem]
  exact qu
 rw[hA]at cA
 obtain⟨n,S,rfl,rfl,hS⟩:=aP3 hA
 rw[Z5,List.length_map]at cA ⊢
 obtain⟨N1,F,f,cF,hF0,hF1⟩:=aHQ n S hS s xs e hd
 have cO:=Xv n S (-4) hS ⟨by omega,by omega⟩
 have cMi:=Xy n S hS
 have cW:=Qb n S hS
 have cDv:=XA n S hS
 have ow:=J3 (q9 n (S.map qZ) n)
 have hx:=aGw hS
 have hO:=fun X hX iX=>aF2 (X:=X) hS hX iX
 have hD:=fun X hX iX=>aHw (X:=X) hS hX iX
 have hdg:=aJ1 hS.n1 hS.n4
 have cdg:=aHV n ex3 hS.n4
 have cof:=yK n (dgE n ex3) hdg
 have hpt:=afd hdg
 rw[hdg.len]at cof
 have cdy:=afT 3 0 (by omega) (by omega)
 rw[show(ExV.mk (decide ((3:Int)<0)) (3:Int).natAbs 0).tel=ex3 by decide+kernel]at cdy
 generalize (dgE n ex3).map ptS=D at*
 generalize dgE n ex3=DL at*
 generalize ex3=x3 at*
 generalize fN n (S.map fun s=>s.out (-4))=N2 at*
 generalize fT (S.map fun s=>s.out (-4))=O at*
 generalize (S.map fun s=>s.out (-4)).all SpV.fit=o at*
 generalize gN n (S.map y4)=N3 at*
 generalize gT (S.map y4)=X at*
 generalize (S.map y4).all ExV.fit=g3 at*
 generalize (q9 n (S.map qZ) n).tel=w at*
 generalize (q9 n (S.map qZ) n).fit=w1 at*
 generalize hN4:fN n (S.map fun s=>s.divd 3 (-20))=N4 at*
 generalize hQ:fT (S.map fun s=>s.divd 3 (-20))=Q at*
 generalize hg4:(S.map fun s=>s.divd 3 (-20)).all SpV.fit=g4 at*
 refine qa (cF) ?_
 simp(disch:=omega)only[go_sem]
 refine qa (cO) ?_
 simp(disch:=omega)only[go_sem]
 refine qa (cMi) ?_
 simp(disch:=omega)only[go_sem]
 refine qb (cA) ?_
 simp(disch:=omega)only[go_sem]
 cases g3
 ·simp(disch:=omega)only[go_sem]
  exact qu
 obtain⟨e3,mX,iX⟩:=hx rfl
 rw[e3]
 have hF1:=fun h=>hF1 h X mX iX
 have hO:=fun h=>hO X mX iX h
 have hD:=fun h=>hD X mX iX h
 have cpt:=yK n X mX
 have pX:=afd mX
 have mt:∀i,i<n*n→alJ (S.getD i sp0) ((X.map ptS).getD i sp0)=true∧alJ ((X.map ptS).getD i sp0) (S.getD i sp0)=true:=fun i hi=>by
  rw[zO (by rw[mX.len];exact hi) ex0]
  have os:=hS.ok _ (Qy (by rw[hS.len];exact hi))
  have ox:=mX.ok _ (aJW (by rw[mX.len];exact hi))
  exact aPJ os ox (arL (K:=3001) (by omega) os ox (iX i hi))
 have cm1:=yL n S (X.map ptS) hS pX fun i hi=>(mt i hi).1
 have cm2:=yL n (X.map ptS) S pX hS fun i hi=>(mt i hi).2
 have c00:Con Tryz.prog 39 false [.ag [.v (.int .i64 0),.sl 0 (qm SpV.cs ([]:List SpV))]] [] (isA (.tu [.ag [.v (.bool (false)),.sl (lim (0)).length (qe (lim (0))),.v (.int .i64 (0))],.v (.bool false)])):=J0
 have c01:Con Tryz.prog 17 false [.ag [.v (.int .i64 0),.sl 0 (qm SpV.cs ([]:List SpV))],.ag [.v (.int .i64 (n)),.sl (D).length (qm SpV.cs (D))]] [] (isA (.tu [.ag [.v (.int .i64 0),.sl 0 (qm SpV.cs ([]:List SpV))],.v (.bool false)])):=Xx n D hpt
 have hD0:g4=false→N4=0∧Q=[]:=fun h=>by
  rw[←hN4,←hQ]
  rw[h]at hg4
  exact⟨if_neg (by rw[hg4];simp),if_neg (by rw[hg4];simp)⟩
 generalize X.map ptS=PX at*
 simp(disch:=omega)only[go_sem]
 cases f
 ·obtain⟨rfl,rfl⟩:=hF0 rfl
  simp(disch:=omega)only[go_sem]
  cases o
  ·simp(disch:=omega)only[go_sem]
   refine qa (cW) ?_
   simp(disch:=omega)only[go_sem]
   refine qa (c00) ?_
   simp(disch:=omega)only[go_sem]
   refine qa (cDv) ?_
   simp(disch:=omega)only[go_sem]
   refine qo rfl [⟨0,[],[]⟩,⟨1,[],[]⟩,⟨2,[1],[]⟩,⟨3,[1],[]⟩,⟨11,[1,3],[]⟩,⟨4,[1,3],[190000000]⟩,⟨5,[1],[190000000]⟩,⟨6,[],[190000000]⟩,⟨7,[],[190000000]⟩,⟨8,[],[190000000]⟩,⟨9,[],[190000000]⟩,⟨10,[],[190000000]⟩,⟨12,[],[]⟩,⟨13,[],[]⟩] (by kernel_rfl) ?_
   simp(disch:=omega)only[go_sem]
   refine qa (cdy) ?_
   simp(disch:=omega)only[go_sem]
   refine qa (cdg) ?_
   simp(disch:=omega)only[go_sem]
   refine qa (cof) ?_
   simp(disch:=omega)only[go_sem]
   cases g4
   ·obtain⟨rfl,rfl⟩:=hD0 rfl
    refine qa (c01) ?_
    simp(disch:=omega)only[go_sem]
    refine qa (cpt) ?_
    simp(disch:=omega)only[go_sem]
    refine qb (cm1) ?_
    simp(disch:=omega)only[go_sem]
    refine qb (cm2) ?_
    simp(disch:=omega)only[go_sem]
    exact qu
   obtain⟨e4,iQ,hP⟩:=hD rfl
   rw[e4]
   have cP:=zp n Q D iQ hpt
   generalize fN n (qE n Q D)=N5 at*
   generalize fT (qE n Q D)=T5 at*
   generalize (qE n Q D).all SpV.fit=g5 at*
   refine qa (cP) ?_
   simp(disch:=omega)only[go_sem]
   refine qa (cpt) ?_
   simp(disch:=omega)only[go_sem]
   cases g5
   ·simp(disch:=omega)only[go_sem]
    refine qb (cm1) ?_
    simp(disch:=omega)only[go_sem]
    refine qb (cm2) ?_
    simp(disch:=omega)only[go_sem]
    exact qu
   obtain⟨e5,i5,h5⟩:=hP rfl
   rw[e5]
   have ch5:=qR n T5 X i5 mX
   rw[h5]at ch5
   simp(disch:=omega)only[go_sem]
   refine qb (ch5) ?_
   simp(disch:=omega)only[go_sem]
   refine qb (cm1) ?_
   simp(disch:=omega)only[go_sem]
   refine qb (cm2) ?_
   simp(disch:=omega)only[go_sem]
   exact qu
  ·obtain⟨e2, -,iO,h2⟩:=hO rfl
   rw[e2]
   have cho:=qR n O X iO mX
   rw[h2]at cho
   simp(disch:=omega)only[go_sem]
   refine qb (cho) ?_
   simp(disch:=omega)only[go_sem]
   refine qa (cW) ?_
   simp(disch:=omega)only[go_sem]
   refine qa (c00) ?_
   simp(disch:=omega)only[go_sem]
   refine qa (cDv) ?_
   simp(disch:=omega)only[go_sem]
   refine qo rfl [⟨0,[],[]⟩,⟨1,[],[]⟩,⟨2,[1],[]⟩,⟨3,[1],[]⟩,⟨11,[1,3],[]⟩,⟨4,[1,3],[190000000]⟩,⟨5,[1],[190000000]⟩,⟨6,[],[190000000]⟩,⟨7,[],[190000000]⟩,⟨8,[],[190000000]⟩,⟨9,[],[190000000]⟩,⟨10,[],[190000000]⟩,⟨12,[],[]⟩,⟨13,[],[]⟩] (by kernel_rfl) ?_
   simp(disch:=omega)only[go_sem]
   refine qa (cdy) ?_
   simp(disch:=omega)only[go_sem]
   refine qa (cdg) ?_
   simp(disch:=omega)only[go_sem]
   refine qa (cof) ?_
   simp(disch:=omega)only[go_sem]
   cases g4
   ·obtain⟨rfl,rfl⟩:=hD0 rfl
    refine qa (c01) ?_
    simp(disch:=omega)only[go_sem]
    refine qa (cpt) ?_
    simp(disch:=omega)only[go_sem]
    refine qb (cm1) ?_
    simp(disch:=omega)only[go_sem]
    refine qb (cm2) ?_
    simp(disch:=omega)only[go_sem]
    exact qu
   obtain⟨e4,iQ,hP⟩:=hD rfl
   rw[e4]
   have cP:=zp n Q D iQ hpt
   generalize fN n (qE n Q D)=N5 at*
   generalize fT (qE n Q D)=T5 at*
   generalize (qE n Q D).all SpV.fit=g5 at*
   refine qa (cP) ?_
   simp(disch:=omega)only[go_sem]
   refine qa (cpt) ?_
   simp(disch:=omega)only[go_sem]
   cases g5
   ·simp(disch:=omega)only[go_sem]
    refine qb (cm1) ?_
    simp(disch:=omega)only[go_sem]
    refine qb (cm2) ?_
    simp(disch:=omega)only[go_sem]
    exact qu
   obtain⟨e5,i5,h5⟩:=hP rfl
   rw[e5]
   have ch5:=qR n T5 X i5 mX
   rw[h5]at ch5
   simp(disch:=omega)only[go_sem]
   refine qb (ch5) ?_
   simp(disch:=omega)only[go_sem]
   refine qb (cm1) ?_
   simp(disch:=omega)only[go_sem]
   refine qb (cm2) ?_
   simp(disch:=omega)only[go_sem]
   exact qu
 ·obtain⟨e1,iF,h1,hwid⟩:=hF1 rfl
  rw[e1]
  have chF:=qR n F X iF mX
  rw[h1]at chF
  have cWF:=Qb n F iF
  have ov:=J3 (q9 n (F.map qZ) n)
  generalize (q9 n (F.map qZ) n).tel=v at*
  generalize (q9 n (F.map qZ) n).fit=w2 at*
  simp(disch:=omega)only[go_sem]
  refine qb (chF) ?_
  simp(disch:=omega)only[go_sem]
  cases o
  ·simp(disch:=omega)only[go_sem]
   refine qa (cW) ?_
   simp(disch:=omega)only[go_sem]
   refine qa (cWF) ?_
   simp(disch:=omega)only[go_sem]
   cases w1
   ·simp(disch:=omega)only[go_sem]
    refine qa (cDv) ?_
    simp(disch:=omega)only[go_sem]
    refine qo rfl [⟨0,[],[]⟩,⟨1,[],[]⟩,⟨2,[1],[]⟩,⟨3,[1],[]⟩,⟨11,[1,3],[]⟩,⟨4,[1,3],[190000000]⟩,⟨5,[1],[190000000]⟩,⟨6,[],[190000000]⟩,⟨7,[],[190000000]⟩,⟨8,[],[190000000]⟩,⟨9,[],[190000000]⟩,⟨10,[],[190000000]⟩,⟨12,[],[]⟩,⟨13,[],[]⟩] (by kernel_rfl) ?_
    simp(disch:=omega)only[go_sem]
    refine qa (cdy) ?_
    simp(disch:=omega)only[go_sem]
    refine qa (cdg) ?_
    simp(disch:=omega)only[go_sem]
    refine qa (cof) ?_
    simp(disch:=omega)only[go_sem]
    cases g4
    ·obtain⟨rfl,rfl⟩:=hD0 rfl
     refine qa (c01) ?_
     simp(disch:=omega)only[go_sem]
     refine qa (cpt) ?_
     simp(disch:=omega)only[go_sem]
     refine qb (cm1) ?_
     simp(disch:=omega)only[go_sem]
     refine qb (cm2) ?_
     simp(disch:=omega)only[go_sem]
     exact qu
    obtain⟨e4,iQ,hP⟩:=hD rfl
    rw[e4]
    have cP:=zp n Q D iQ hpt
    generalize fN n (qE n Q D)=N5 at*
    generalize fT (qE n Q D)=T5 at*
    generalize (qE n Q D).all SpV.fit=g5 at*
    refine qa (cP) ?_
    simp(disch:=omega)only[go_sem]
    refine qa (cpt) ?_
    simp(disch:=omega)only[go_sem]
    cases g5
    ·simp(disch:=omega)only[go_sem]
     refine qb (cm1) ?_
     simp(disch:=omega)only[go_sem]
     refine qb (cm2) ?_
     simp(disch:=omega)only[go_sem]
     exact qu
    obtain⟨e5,i5,h5⟩:=hP rfl
    rw[e5]
    have ch5:=qR n T5 X i5 mX
    rw[h5]at ch5
    simp(disch:=omega)only[go_sem]
    refine qb (ch5) ?_
    simp(disch:=omega)only[go_sem]
    refine qb (cm1) ?_
    simp(disch:=omega)only[go_sem]
    refine qb (cm2) ?_
    simp(disch:=omega)only[go_sem]
    exact qu
   cases w2
   ·simp(disch:=omega)only[go_sem]
    refine qa (cDv) ?_
    simp(disch:=omega)only[go_sem]
    refine qo rfl [⟨0,[],[]⟩,⟨1,[],[]⟩,⟨2,[1],[]⟩,⟨3,[1],[]⟩,⟨11,[1,3],[]⟩,⟨4,[1,3],[190000000]⟩,⟨5,[1],[190000000]⟩,⟨6,[],[190000000]⟩,⟨7,[],[190000000]⟩,⟨8,[],[190000000]⟩,⟨9,[],[190000000]⟩,⟨10,[],[190000000]⟩,⟨12,[],[]⟩,⟨13,[],[]⟩] (by kernel_rfl) ?_
    simp(disch:=omega)only[go_sem]
    refine qa (cdy) ?_
    simp(disch:=omega)only[go_sem]
    refine qa (cdg) ?_
    simp(disch:=omega)only[go_sem]
    refine qa (cof) ?_
    simp(disch:=omega)only[go_sem]
    cases g4
    ·obtain⟨rfl,rfl⟩:=hD0 rfl
     refine qa (c01) ?_
     simp(disch:=omega)only[go_sem]
     refine qa (cpt) ?_
     simp(disch:=omega)only[go_sem]
     refine qb (cm1) ?_
     simp(disch:=omega)only[go_sem]
     refine qb (cm2) ?_
     simp(disch:=omega)only[go_sem]
     exact qu
    obtain⟨e4,iQ,hP⟩:=hD rfl
    rw[e4]
    have cP:=zp n Q D iQ hpt
    generalize fN n (qE n Q D)=N5 at*
    generalize fT (qE n Q D)=T5 at*
    generalize (qE n Q D).all SpV.fit=g5 at*
    refine qa (cP) ?_
    simp(disch:=omega)only[go_sem]
    refine qa (cpt) ?_
    simp(disch:=omega)only[go_sem]
    cases g5
    ·simp(disch:=omega)only[go_sem]
     refine qb (cm1) ?_
     simp(disch:=omega)only[go_sem]
     refine qb (cm2) ?_
     simp(disch:=omega)only[go_sem]
     exact qu
    obtain⟨e5,i5,h5⟩:=hP rfl
    rw[e5]
    have ch5:=qR n T5 X i5 mX
    rw[h5]at ch5
    simp(disch:=omega)only[go_sem]
    refine qb (ch5) ?_
    simp(disch:=omega)only[go_sem]
    refine qb (cm1) ?_
    simp(disch:=omega)only[go_sem]
    refine qb (cm2) ?_
    simp(disch:=omega)only[go_sem]
    exact qu
   ·have hgt:decide (0<zr (w.val 3000) (v.val 3000))=false:=by
     have:=(js (w.val 3000) (v.val 3000)).1.2 (hwid rfl rfl)
     exact decide_eq_false (by omega)
    simp(disch:=omega)only[go_sem]
    refine qb (abH w v ow ov) ?_
    simp(disch:=omega)only[go_sem]
    simp(disch:=omega)only[go_sem,hgt]
    refine qa (cDv) ?_
    simp(disch:=omega)only[go_sem]
    refine qo rfl [⟨0,[],[]⟩,⟨1,[],[]⟩,⟨2,[1],[]⟩,⟨3,[1],[]⟩,⟨11,[1,3],[]⟩,⟨4,[1,3],[190000000]⟩,⟨5,[1],[190000000]⟩,⟨6,[],[190000000]⟩,⟨7,[],[190000000]⟩,⟨8,[],[190000000]⟩,⟨9,[],[190000000]⟩,⟨10,[],[190000000]⟩,⟨12,[],[]⟩,⟨13,[],[]⟩] (by kernel_rfl) ?_
    simp(disch:=omega)only[go_sem]
    refine qa (cdy) ?_
    simp(disch:=omega)only[go_sem]
    refine qa (cdg) ?_
    simp(disch:=omega)only[go_sem]
    refine qa (cof) ?_
    simp(disch:=omega)only[go_sem]
    cases g4
    ·obtain⟨rfl,rfl⟩:=hD0 rfl
     refine qa (c01) ?_
     simp(disch:=omega)only[go_sem]
     refine qa (cpt) ?_
     simp(disch:=omega)only[go_sem]
     refine qb (cm1) ?_
     simp(disch:=omega)only[go_sem]
     refine qb (cm2) ?_
     simp(disch:=omega)only[go_sem]
     exact qu
    obtain⟨e4,iQ,hP⟩:=hD rfl
    rw[e4]
    have cP:=zp n Q D iQ hpt
    generalize fN n (qE n Q D)=N5 at*
    generalize fT (qE n Q D)=T5 at*
    generalize (qE n Q D).all SpV.fit=g5 at*
    refine qa (cP) ?_
    simp(disch:=omega)only[go_sem]
    refine qa (cpt) ?_
    simp(disch:=omega)only[go_sem]
    cases g5
    ·simp(disch:=omega)only[go_sem]
     refine qb (cm1) ?_
     simp(disch:=omega)only[go_sem]
     refine qb (cm2) ?_
     simp(disch:=omega)only[go_sem]
     exact qu
    obtain⟨e5,i5,h5⟩:=hP rfl
    rw[e5]
    have ch5:=qR n T5 X i5 mX
    rw[h5]at ch5
    simp(disch:=omega)only[go_sem]
    refine qb (ch5) ?_
    simp(disch:=omega)only[go_sem]
    refine qb (cm1) ?_
    simp(disch:=omega)only[go_sem]
    refine qb (cm2) ?_
    simp(disch:=omega)only[go_sem]
    exact qu
  ·obtain⟨e2, -,iO,h2⟩:=hO rfl
   rw[e2]
   have cho:=qR n O X iO mX
   rw[h2]at cho
   simp(disch:=omega)only[go_sem]
   refine qb (cho) ?_
   simp(disch:=omega)only[go_sem]
   refine qa (cW) ?_
   simp(disch:=omega)only[go_sem]
   refine qa (cWF) ?_
   simp(disch:=omega)only[go_sem]
   cases w1
   ·simp(disch:=omega)only[go_sem]
    refine qa (cDv) ?_
    simp(disch:=omega)only[go_sem]
    refine qo rfl [⟨0,[],[]⟩,⟨1,[],[]⟩,⟨2,[1],[]⟩,⟨3,[1],[]⟩,⟨11,[1,3],[]⟩,⟨4,[1,3],[190000000]⟩,⟨5,[1],[190000000]⟩,⟨6,[],[190000000]⟩,⟨7,[],[190000000]⟩,⟨8,[],[190000000]⟩,⟨9,[],[190000000]⟩,⟨10,[],[190000000]⟩,⟨12,[],[]⟩,⟨13,[],[]⟩] (by kernel_rfl) ?_
    simp(disch:=omega)only[go_sem]
    refine qa (cdy) ?_
    simp(disch:=omega)only[go_sem]
    refine qa (cdg) ?_
    simp(disch:=omega)only[go_sem]
    refine qa (cof) ?_
    simp(disch:=omega)only[go_sem]
    cases g4
    ·obtain⟨rfl,rfl⟩:=hD0 rfl
     refine qa (c01) ?_
     simp(disch:=omega)only[go_sem]
     refine qa (cpt) ?_
     simp(disch:=omega)only[go_sem]
     refine qb (cm1) ?_
     simp(disch:=omega)only[go_sem]
     refine qb (cm2) ?_
     simp(disch:=omega)only[go_sem]
     exact qu
    obtain⟨e4,iQ,hP⟩:=hD rfl
    rw[e4]
    have cP:=zp n Q D iQ hpt
    generalize fN n (qE n Q D)=N5 at*
    generalize fT (qE n Q D)=T5 at*
    generalize (qE n Q D).all SpV.fit=g5 at*
    refine qa (cP) ?_
    simp(disch:=omega)only[go_sem]
    refine qa (cpt) ?_
    simp(disch:=omega)only[go_sem]
    cases g5
    ·simp(disch:=omega)only[go_sem]
     refine qb (cm1) ?_
     simp(disch:=omega)only[go_sem]
     refine qb (cm2) ?_
     simp(disch:=omega)only[go_sem]
     exact qu
    obtain⟨e5,i5,h5⟩:=hP rfl
    rw[e5]
    have ch5:=qR n T5 X i5 mX
    rw[h5]at ch5
    simp(disch:=omega)only[go_sem]
    refine qb (ch5) ?_
    simp(disch:=omega)only[go_sem]
    refine qb (cm1) ?_
    simp(disch:=omega)only[go_sem]
    refine qb (cm2) ?_
    simp(disch:=omega)only[go_sem]
    exact qu
   cases w2
   ·simp(disch:=omega)only[go_sem]
    refine qa (cDv) ?_
    simp(disch:=omega)only[go_sem]
    refine qo rfl [⟨0,[],[]⟩,⟨1,[],[]⟩,⟨2,[1],[]⟩,⟨3,[1],[]⟩,⟨11,[1,3],[]⟩,⟨4,[1,3],[190000000]⟩,⟨5,[1],[190000000]⟩,⟨6,[],[190000000]⟩,⟨7,[],[190000000]⟩,⟨8,[],[190000000]⟩,⟨9,[],[190000000]⟩,⟨10,[],[190000000]⟩,⟨12,[],[]⟩,⟨13,[],[]⟩] (by kernel_rfl) ?_
    simp(disch:=omega)only[go_sem]
    refine qa (cdy) ?_
    simp(disch:=omega)only[go_sem]
    refine qa (cdg) ?_
    simp(disch:=omega)only[go_sem]
    refine qa (cof) ?_
    simp(disch:=omega)only[go_sem]
    cases g4
    ·obtain⟨rfl,rfl⟩:=hD0 rfl
     refine qa (c01) ?_
     simp(disch:=omega)only[go_sem]
     refine qa (cpt) ?_
     simp(disch:=omega)only[go_sem]
     refine qb (cm1) ?_
     simp(disch:=omega)only[go_sem]
     refine qb (cm2) ?_
     simp(disch:=omega)only[go_sem]
     exact qu
    obtain⟨e4,iQ,hP⟩:=hD rfl
    rw[e4]
    have cP:=zp n Q D iQ hpt
    generalize fN n (qE n Q D)=N5 at*
    generalize fT (qE n Q D)=T5 at*
    generalize (qE n Q D).all SpV.fit=g5 at*
    refine qa (cP) ?_
    simp(disch:=omega)only[go_sem]
    refine qa (cpt) ?_
    simp(disch:=omega)only[go_sem]
    cases g5
    ·simp(disch:=omega)only[go_sem]
     refine qb (cm1) ?_
     simp(disch:=omega)only[go_sem]
     refine qb (cm2) ?_
     simp(disch:=omega)only[go_sem]
     exact qu
    obtain⟨e5,i5,h5⟩:=hP rfl
    rw[e5]
    have ch5:=qR n T5 X i5 mX
    rw[h5]at ch5
    simp(disch:=omega)only[go_sem]
    refine qb (ch5) ?_
    simp(disch:=omega)only[go_sem]
    refine qb (cm1) ?_
    simp(disch:=omega)only[go_sem]
    refine qb (cm2) ?_
    simp(disch:=omega)only[go_sem]
    exact qu
   ·have hgt:decide (0<zr (w.val 3000) (v.val 3000))=false:=by
     have:=(js (w.val 3000) (v.val 3000)).1.2 (hwid rfl rfl)
     exact decide_eq_false (by omega)
    simp(disch:=omega)only[go_sem]
    refine qb (abH w v ow ov) ?_
    simp(disch:=omega)only[go_sem]
    simp(disch:=omega)only[go_sem,hgt]
    refine qa (cDv) ?_
    simp(disch:=omega)only[go_sem]
    refine qo rfl [⟨0,[],[]⟩,⟨1,[],[]⟩,⟨2,[1],[]⟩,⟨3,[1],[]⟩,⟨11,[1,3],[]⟩,⟨4,[1,3],[190000000]⟩,⟨5,[1],[190000000]⟩,⟨6,[],[190000000]⟩,⟨7,[],[190000000]⟩,⟨8,[],[190000000]⟩,⟨9,[],[190000000]⟩,⟨10,[],[190000000]⟩,⟨12,[],[]⟩,⟨13,[],[]⟩] (by kernel_rfl) ?_
    simp(disch:=omega)only[go_sem]
    refine qa (cdy) ?_
    simp(disch:=omega)only[go_sem]
    refine qa (cdg) ?_
    simp(disch:=omega)only[go_sem]
    refine qa (cof) ?_
    simp(disch:=omega)only[go_sem]
    cases g4
    ·obtain⟨rfl,rfl⟩:=hD0 rfl
     refine qa (c01) ?_
     simp(disch:=omega)only[go_sem]
     refine qa (cpt) ?_
     simp(disch:=omega)only[go_sem]
     refine qb (cm1) ?_
     simp(disch:=omega)only[go_sem]
     refine qb (cm2) ?_
     simp(disch:=omega)only[go_sem]
     exact qu
    obtain⟨e4,iQ,hP⟩:=hD rfl
    rw[e4]
    have cP:=zp n Q D iQ hpt
    generalize fN n (qE n Q D)=N5 at*
    generalize fT (qE n Q D)=T5 at*
    generalize (qE n Q D).all SpV.fit=g5 at*
    refine qa (cP) ?_
    simp(disch:=omega)only[go_sem]
    refine qa (cpt) ?_
    simp(disch:=omega)only[go_sem]
    cases g5
    ·simp(disch:=omega)only[go_sem]
     refine qb (cm1) ?_
     simp(disch:=omega)only[go_sem]
     refine qb (cm2) ?_
     simp(disch:=omega)only[go_sem]
     exact qu
    obtain⟨e5,i5,h5⟩:=hP rfl
    rw[e5]
    have ch5:=qR n T5 X i5 mX
    rw[h5]at ch5
    simp(disch:=omega)only[go_sem]
    refine qb (ch5) ?_
    simp(disch:=omega)only[go_sem]
    refine qb (cm1) ?_
    simp(disch:=omega)only[go_sem]
    refine qb (cm2) ?_
    simp(disch:=omega)only[go_sem]
    exact qu
end Go.Ab
namespace Go.Proofs.YtgkehjnacdccfaaGreatDoor
open Go.ChangeShapes Go.WideShapes Go.ChangeAt Go.RowKit Go.Ab
theorem own:ownKnob Tryz.prog.godebug=none:=by kernel_rfl
theorem asC:laidOutB Tryz.prog=true:=by kernel_rfl
theorem arE:Tryz.prog.globalNamed "math/bits.deBruijn64tab" =some 1:=by kernel_rfl
theorem aN5:(Tryz.prog.globals[1]?).map (·.type)=some 285:=by kernel_rfl
theorem aN4:Tryz.prog.underlying 285=some (.array 64 5):=by kernel_rfl
theorem aN8:Tryz.prog.underlying 5=some (.int .u8):=by kernel_rfl
theorem aN9:Tryz.prog.cellsOf 5=1:=by kernel_rfl
theorem aN6:Tryz.prog.cellsOf 285=64:=by kernel_rfl
noncomputable def yW:List (String×DataW Unit):=[("math/bits.deBruijn32tab",Rows.laid_math_bits_deBruijn32tab),("math/bits.deBruijn64tab",Rows.laid_math_bits_deBruijn64tab)]
theorem aN7{W:World}(h:laidMetH Tryz.prog yW W):Gd W:=by
 have h':laidMet Tryz.prog yW W:=h
 have h2:laidMet Tryz.prog [("math/bits.deBruijn64tab",Lib.tabData .u8 (Lib.deBruijn64tab.map Int.ofNat))] W:=laidMet.tail h'
 have hT:=Lib.tabIs_of_head arE aN5 aN4 aN8 aN9 aN6 h2
 intro g l hg
 unfold glb at hg
 split at hg
 ·rename_i e
  subst e
  cases hg
  have hc:∀i,i<Lib.deBruijn64tab.length→W.cell? ⟨1,i,none⟩=some (.int .u8 ((Lib.deBruijn64tab.getD i 0:Nat):Int)):=fun i hi=>by
   have:=hT.cell arE i (by simpa using hi)
   rw[this]
   simp[List.getD,hi]
  exact⟨ag3 (hc 0 (by decide)),hc⟩
 ·cases hg
noncomputable def abb(os:Os):World:=
 let w0:=World.holding Tryz.prog os ⟨#[],#[],[]⟩
 {w0 with heap:=(w0.heap.modify 1 fun
   | .cells _ t frozen=>.cells (Lib.deBruijn64tab.map fun z=>Value.int .u8 (Int.ofNat z)).toArray t frozen
   |o=>o).modify 0 fun
   | .cells _ t frozen=>.cells (Lib.deBruijn32tab.map fun z=>Value.int .u8 (Int.ofNat z)).toArray t frozen
   |o=>o}
theorem Y6(os:Os)(args:Array Value):laidMetH Tryz.prog yW ((abb os).forCall (fun _ _=>0) ⟨#[],args,[]⟩).memory:=
 laidMetH_of_parts (laidMet_of_run' 8 (by kernel_rfl) (by kernel_rfl)) (by kernel_rfl)
end Go.Proofs.YtgkehjnacdccfaaGreatDoor
