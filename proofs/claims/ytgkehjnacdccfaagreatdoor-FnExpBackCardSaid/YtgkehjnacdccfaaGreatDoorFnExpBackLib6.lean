/- What the proof of this claim stands on: the walks of the functions and the plain laws, part 6. -/
import Derived.Test.YtgkehjnacdccfaaGreatDoorFnExpBackLib5
import Derived.Test.YtgkehjnacdccfaaGreatDoorRows
import Derived.Test.YtgkehjnacdccfaaGreatDoorCards
import Derived.Test.YtgkehjnacdccfaaGreatDoorTie
import Derived.Handed
import Derived.ChangeSame
import Derived.JoinedOf
import Derived.RowKit
import Derived.WalkKit
import Derived.ProofKit
import Derived.OpenShut
import Derived.LaidLaws
import Derived.LaidHandle
import Derived.SevenTiedAt
import Derived.Stop.LaidErr
import Derived.Lib.LaidTab
set_option linter.unusedVariables false
set_option linter.unusedSimpArgs false
namespace Go.Ab
open Go Go.Proofs
/-! ### What rounded quotients are worth-/
theorem aKz(s:Bool)(a b:Nat)(hb:0<b):(s=false→rq s a b 3*b≤a)∧(s=true→a≤rq s a b 3*b)∧(s=false→a≤rq s a b 2*b)∧(s=true→rq s a b 2*b≤a):=by
 have h1:=Nat.div_add_mod a b
 have h2:=Nat.mod_lt a hb
 have h3:a/b*b=b*(a/b):=Nat.mul_comm _ _
 have h4:(a/b+1)*b=b*(a/b)+b:=by rw[Nat.add_mul,Nat.one_mul,Nat.mul_comm]
 unfold rq rup
 by_cases h:a % b=0
 ·simp only[if_pos h];refine⟨fun _=>?_,fun _=>?_,fun _=>?_,fun _=>?_⟩<;>omega
 ·simp only[if_neg h]
  cases s
  ·refine⟨fun _=>?_,(fun h=>by cases h),fun _=>?_,(fun h=>by cases h)⟩<;>simp<;>omega
  ·refine⟨fun h=>(by cases h),fun _=>?_,fun h=>(by cases h),fun _=>?_⟩<;>simp<;>omega
theorem bia(s:Bool)(m:Nat):sv s m=sv s 1*(m:Int):=by cases s<;>simp[sv]
theorem Y8{x y:ExV}{low mode:Int}{Kx Ky Kz:Nat}(hy0:y.m≠0)(hx: -(Kx:Int)≤x.e)(hy: -(Ky:Int)≤y.e)(hz: -(Kz:Int)≤low):
  ∃(a b:Nat) (f:Int),0<b∧0<f∧(x.over y low mode).val Kz*y.val Ky*p2 Kx=sv x.s 1*((rq (x.s != y.s) a b mode*b:Nat)*f)∧x.val Kx*p2 (Ky+Kz)=sv x.s 1*(a*f)∧((y.val Ky).natAbs:Int)*p2 ((low+Kz).toNat+Kx)=b*f:=by
 obtain⟨k,hk⟩:∃k,k=x.e-y.e-low:=⟨_,rfl⟩
 have hz':(x.over y low mode).val Kz=sv (x.s != y.s) (rq (x.s != y.s) (ovA x.m k) (ovA y.m (-k)) mode)*p2 (low+Kz).toNat:=by
  rw[hk]
  show dv Kz ((x.s != y.s)&&decide (ovQ (x.s != y.s) x.m x.e y.m y.e low mode≠0)) (ovQ (x.s != y.s) x.m x.e y.m y.e low mode) low=_
  rw[abK];rfl
 have hyv:y.val Ky=sv y.s y.m*p2 (y.e+Ky).toNat:=rfl
 have hxv:x.val Kx=sv x.s x.m*p2 (x.e+Kx).toNat:=rfl
 have hb:0<ovA y.m (-k):=Nat.mul_pos (Nat.pos_of_ne_zero hy0) (Nat.pow_pos (by omega))
 generalize hq:rq (x.s != y.s) (ovA x.m k) (ovA y.m (-k)) mode=q at*
 obtain⟨g,hg1,hg2⟩:∃g:Nat,(low+Kz).toNat+(y.e+Ky).toNat+Kx=(-k).toNat+g∧(x.e+Kx).toNat+(Ky+Kz)=k.toNat+g:=by
  refine⟨min ((low+Kz).toNat+(y.e+Ky).toNat+Kx) ((x.e+Kx).toNat+(Ky+Kz)),?_,?_⟩<;>omega
 have ea:((ovA x.m k:Nat):Int)=x.m*p2 k.toNat:=by unfold ovA p2;rw[Int.natCast_mul,Int.natCast_pow];rfl
 have eb:((ovA y.m (-k):Nat):Int)=y.m*p2 (-k).toNat:=by unfold ovA p2;rw[Int.natCast_mul,Int.natCast_pow];rfl
 refine⟨ovA x.m k,ovA y.m (-k),p2 g,hb,qZ g,?_,?_,?_⟩
 ·rw[hq,hz',hyv,Int.natCast_mul,eb]
  have e1:p2 (low+Kz).toNat*p2 (y.e+Ky).toNat*p2 Kx=p2 (-k).toNat*p2 g:=by rw[←zx,←zx,hg1,zx]
  have e2:sv (x.s != y.s) q*sv y.s y.m=sv x.s 1*((q:Int)*y.m):=by
   cases x.s<;>cases y.s<;>(simp[sv];try grind)
  calc sv (x.s != y.s) q*p2 (low+Kz).toNat*(sv y.s y.m*p2 (y.e+Ky).toNat)*p2 Kx=(sv (x.s != y.s) q*sv y.s y.m)*(p2 (low+Kz).toNat*p2 (y.e+Ky).toNat*p2 Kx):=by grind
   _=_:=by rw[e1,e2];grind
 ·rw[hxv,ea,bia x.s x.m]
  have e1:p2 (x.e+Kx).toNat*p2 (Ky+Kz)=p2 k.toNat*p2 g:=by rw[←zx,hg2,zx]
  calc sv x.s 1*(x.m:Int)*p2 (x.e+Kx).toNat*p2 (Ky+Kz)=sv x.s 1*(x.m:Int)*(p2 (x.e+Kx).toNat*p2 (Ky+Kz)):=by rw[Int.mul_assoc]
   _=_:=by rw[e1];grind
 ·have e0:((y.val Ky).natAbs:Int)=y.m*p2 (y.e+Ky).toNat:=by
   have hp:=qZ (y.e+Ky).toNat
   rw[hyv,Int.natAbs_mul,aa7,Int.natCast_mul,show(((p2 (y.e+Ky).toNat).natAbs:Nat):Int)=p2 (y.e+Ky).toNat by omega]
  rw[e0,eb,zx]
  have e1:p2 (y.e+Ky).toNat*(p2 (low+Kz).toNat*p2 Kx)=p2 (-k).toNat*p2 g:=by rw[←zx,←zx,←zx,←hg1];exact congrArg p2 (by omega)
  calc (y.m:Int)*p2 (y.e+Ky).toNat*(p2 (low+Kz).toNat*p2 Kx)=(y.m:Int)*(p2 (y.e+Ky).toNat*(p2 (low+Kz).toNat*p2 Kx)):=by rw[Int.mul_assoc]
   _=_:=by rw[e1];grind
theorem aGW{x y:ExV}{low:Int}{Kx Ky Kz:Nat}(hy0:y.m≠0)(hx: -(Kx:Int)≤x.e)(hy: -(Ky:Int)≤y.e)(hz: -(Kz:Int)≤low):
  (y.s=false→(x.over y low 3).val Kz*y.val Ky*p2 Kx≤x.val Kx*p2 (Ky+Kz)∧x.val Kx*p2 (Ky+Kz)≤(x.over y low 2).val Kz*y.val Ky*p2 Kx)∧
  (y.s=true→x.val Kx*p2 (Ky+Kz)≤(x.over y low 3).val Kz*y.val Ky*p2 Kx∧(x.over y low 2).val Kz*y.val Ky*p2 Kx≤x.val Kx*p2 (Ky+Kz)):=by
 obtain⟨a,b,f,hb,hf,e1,e2,e3⟩:=Y8 (mode:=3) hy0 hx hy hz
 obtain⟨a',b',f',hb',hf',e1',e2',e3'⟩:=Y8 (mode:=2) hy0 hx hy hz
 obtain⟨h1,h2, -, -⟩:=aKz (x.s != y.s) a b hb
 obtain⟨-, -,h3,h4⟩:=aKz (x.s != y.s) a' b' hb'
 rw[e1,e1']
 have m1:∀p q:Nat,p≤q→(p:Int)*f≤q*f:=fun p q h=>Int.mul_le_mul_of_nonneg_right (by omega) (by omega)
 have m2:∀p q:Nat,p≤q→(p:Int)*f'≤q*f':=fun p q h=>Int.mul_le_mul_of_nonneg_right (by omega) (by omega)
 generalize rq (x.s != y.s) a b 3*b=q at*
 generalize rq (x.s != y.s) a' b' 2*b'=q' at*
 cases hxs:x.s<;>cases hys:y.s<;>rw[hxs,hys]at h1 h2 h3 h4<;>rw[hxs]at e2 e2'<;>simp only[sv]at* <;>refine⟨fun h=>?_,fun h=>?_⟩<;>first|(cases h;done)|skip
 ·have:=m1 _ _ (h1 rfl);have:=m2 _ _ (h3 rfl)
  constructor
  ·rw[e2];simp;omega
  ·rw[e2'];simp;omega
 ·have:=m1 _ _ (h2 rfl);have:=m2 _ _ (h4 rfl)
  constructor
  ·rw[e2];simp;omega
  ·rw[e2'];simp;omega
 ·have:=m1 _ _ (h2 rfl);have:=m2 _ _ (h4 rfl)
  constructor
  ·rw[e2];simp;omega
  ·rw[e2'];simp;omega
 ·have:=m1 _ _ (h1 rfl);have:=m2 _ _ (h3 rfl)
  constructor
  ·rw[e2];simp;omega
  ·rw[e2'];simp;omega
end Go.Ab
namespace Go.Ab
theorem afK{a b c d x y m M:Int}(h1:a≤x)(h2:x≤b)(h3:c≤y)(h4:y≤d)(m1:m≤a*c)(m2:m≤a*d)(m3:m≤b*c)(m4:m≤b*d)(M1:a*c≤M)(M2:a*d≤M)(M3:b*c≤M)(M4:b*d≤M):m≤x*y∧x*y≤M:=by
 have key:∀e:Int,(a*e≤x*e∧x*e≤b*e)∨(b*e≤x*e∧x*e≤a*e):=fun e=>by
  rcases Int.le_total 0 e with h|h
  ·exact .inl ⟨Int.mul_le_mul_of_nonneg_right h1 h,Int.mul_le_mul_of_nonneg_right h2 h⟩
  ·exact .inr ⟨Int.mul_le_mul_of_nonpos_right h2 h,Int.mul_le_mul_of_nonpos_right h1 h⟩
 have kc:=key c
 have kd:=key d
 have ky:(x*c≤x*y∧x*y≤x*d)∨(x*d≤x*y∧x*y≤x*c):=by
  rcases Int.le_total 0 x with h|h
  ·exact .inl ⟨Int.mul_le_mul_of_nonneg_left h3 h,Int.mul_le_mul_of_nonneg_left h4 h⟩
  ·exact .inr ⟨Int.mul_le_mul_of_nonpos_left h h4,Int.mul_le_mul_of_nonpos_left h h3⟩
 omega
end Go.Ab
namespace Go.Ab
open Go Go.Proofs
/-! ### Rational points of intervals-/
theorem abw{K:Nat}:∀(l:List ExV) (m:ExV), -(K:Int)≤m.e→eK K l→(l.foldl ja m).val K≤m.val K∧(∀x∈l,(l.foldl ja m).val K≤x.val K)∧ -(K:Int)≤(l.foldl ja m).e
 | [],m,hm,_=>⟨Int.le_refl _,(fun x hx=>by cases hx),hm⟩
 |y::l,m,hm,hl=>by
  have hy:=hl y (List.mem_cons_self ..)
  have hl':eK K l:=fun x hx=>hl x (List.mem_cons_of_mem _ hx)
  have h1:(ja m y).val K≤m.val K∧(ja m y).val K≤y.val K∧ -(K:Int)≤(ja m y).e:=by
   rcases Int.lt_or_le (y.val K) (m.val K)with g|g
   ·have e:ja m y=y:=by
     unfold ja
     rw[Qz hy hm,if_pos (by unfold zF;rw[if_pos g];decide)]
    rw[e];exact⟨Int.le_of_lt g,Int.le_refl _,hy⟩
   ·have e:ja m y=m:=by
     unfold ja
     rw[Qz hy hm,if_neg (by unfold zF;rw[if_neg (by omega)];split<;>omega)]
    rw[e];exact⟨Int.le_refl _,g,hm⟩
  obtain⟨g1,g2,g3⟩:=abw l (ja m y) h1.2.2 hl'
  refine⟨Int.le_trans g1 h1.1,fun x hx=>?_,g3⟩
  rcases List.mem_cons.1 hx with rfl|hx
  ·exact Int.le_trans g1 h1.2.1
  ·exact g2 x hx
theorem ahe{K:Nat}:∀(l:List ExV) (m:ExV), -(K:Int)≤m.e→eK K l→m.val K≤(l.foldl ji m).val K∧(∀x∈l,x.val K≤(l.foldl ji m).val K)∧ -(K:Int)≤(l.foldl ji m).e
 | [],m,hm,_=>⟨Int.le_refl _,(fun x hx=>by cases hx),hm⟩
 |y::l,m,hm,hl=>by
  have hy:=hl y (List.mem_cons_self ..)
  have hl':eK K l:=fun x hx=>hl x (List.mem_cons_of_mem _ hx)
  have h1:m.val K≤(ji m y).val K∧y.val K≤(ji m y).val K∧ -(K:Int)≤(ji m y).e:=by
   rcases Int.lt_or_le (m.val K) (y.val K)with g|g
   ·have e:ji m y=y:=by
     unfold ji
     rw[Qz hy hm,if_pos (by unfold zF;rw[if_neg (by omega),if_pos g];decide)]
    rw[e];exact⟨Int.le_of_lt g,Int.le_refl _,hy⟩
   ·have e:ji m y=m:=by
     unfold ji
     rw[Qz hy hm,if_neg (by unfold zF;split<;>(try split)<;>omega)]
    rw[e];exact⟨Int.le_refl _,g,hm⟩
  obtain⟨g1,g2,g3⟩:=ahe l (ji m y) h1.2.2 hl'
  refine⟨Int.le_trans h1.1 g1,fun x hx=>?_,g3⟩
  rcases List.mem_cons.1 hx with rfl|hx
  ·exact Int.le_trans h1.2.1 g1
  ·exact g2 x hx
theorem Zh{K:Nat}{l:List ExV}(h:eK K l):(∀x∈l,(jf l).val K≤x.val K)∧ -(K:Int)≤(jf l).e:=by
 cases l with
 |nil=>exact⟨(fun x hx=>by cases hx),by show-(K:Int)≤0;omega⟩
 |cons y l=>
  obtain⟨g1,g2,g3⟩:=abw (K:=K) l y (h y (List.mem_cons_self ..)) fun x hx=>h x (List.mem_cons_of_mem _ hx)
  refine⟨fun x hx=>?_,g3⟩
  rcases List.mem_cons.1 hx with rfl|hx
  ·exact g1
  ·exact g2 x hx
theorem Jq{K:Nat}{l:List ExV}(h:eK K l):(∀x∈l,x.val K≤(zw l).val K)∧ -(K:Int)≤(zw l).e:=by
 cases l with
 |nil=>exact⟨(fun x hx=>by cases hx),by show-(K:Int)≤0;omega⟩
 |cons y l=>
  obtain⟨g1,g2,g3⟩:=ahe (K:=K) l y (h y (List.mem_cons_self ..)) fun x hx=>h x (List.mem_cons_of_mem _ hx)
  refine⟨fun x hx=>?_,g3⟩
  rcases List.mem_cons.1 hx with rfl|hx
  ·exact g1
  ·exact g2 x hx
def SpV.eK(K:Nat)(s:SpV):Prop:= -(K:Int)≤s.lo.e∧ -(K:Int)≤s.hi.e
def inS(K:Nat)(s:SpV)(N D:Int):Prop:=s.lo.val K*D≤N∧N≤s.hi.val K*D
theorem aWB{K:Nat}{x:ExV}{D:Int}:inS K ⟨x,x⟩ (x.val K*D) D:=⟨Int.le_refl _,Int.le_refl _⟩
theorem times_eK{K K':Nat}{s t:SpV}(hs:s.eK K)(ht:t.eK K'):eK (K+K') (qX ExV.times s t):=fun x hx=>by
 obtain⟨a,b⟩:=hs
 obtain⟨c,d⟩:=ht
 simp only[qX,List.mem_cons,List.not_mem_nil,or_false]at hx
 rcases hx with rfl|rfl|rfl|rfl
 ·show _≤s.lo.e+t.lo.e;omega
 ·show _≤s.lo.e+t.hi.e;omega
 ·show _≤s.hi.e+t.lo.e;omega
 ·show _≤s.hi.e+t.hi.e;omega
theorem SpV.times_eK{K K':Nat}{s t:SpV}(hs:s.eK K)(ht:t.eK K'):(s.times t).eK (K+K'):=⟨(Zh (Go.Ab.times_eK hs ht)).2,(Jq (Go.Ab.times_eK hs ht)).2⟩
theorem atw{K K':Nat}{s t:SpV}{N D N' D':Int}(hs:s.eK K)(ht:t.eK K')(hD:0<D)(hD':0<D')(h:inS K s N D)(h':inS K' t N' D'):inS (K+K') (s.times t) (N*N') (D*D'):=by
 have he:=Go.Ab.times_eK hs ht
 obtain⟨l1, -⟩:=Zh he
 obtain⟨m1, -⟩:=Jq he
 have hDD:0≤D*D':=Int.le_of_lt (Int.mul_pos hD hD')
 obtain⟨a,b⟩:=hs
 obtain⟨c,d⟩:=ht
 have f:∀x y:ExV, -(K:Int)≤x.e→ -(K':Int)≤y.e→(x.times y).val (K+K')*(D*D')=(x.val K*D)*(y.val K'*D'):=fun x y hx hy=>by
  rw[QB hx hy];grind
 have L:∀x∈qX ExV.times s t,(jf (qX ExV.times s t)).val (K+K')*(D*D')≤x.val (K+K')*(D*D'):=fun x hx=>Int.mul_le_mul_of_nonneg_right (l1 x hx) hDD
 have M:∀x∈qX ExV.times s t,x.val (K+K')*(D*D')≤(zw (qX ExV.times s t)).val (K+K')*(D*D'):=fun x hx=>Int.mul_le_mul_of_nonneg_right (m1 x hx) hDD
 have i1:s.lo.times t.lo∈qX ExV.times s t:=by simp[qX]
 have i2:s.lo.times t.hi∈qX ExV.times s t:=by simp[qX]
 have i3:s.hi.times t.lo∈qX ExV.times s t:=by simp[qX]
 have i4:s.hi.times t.hi∈qX ExV.times s t:=by simp[qX]
 have L1:=L _ i1
 have L2:=L _ i2
 have L3:=L _ i3
 have L4:=L _ i4
 have M1:=M _ i1
 have M2:=M _ i2
 have M3:=M _ i3
 have M4:=M _ i4
 rw[f _ _ a c]at L1 M1
 rw[f _ _ a d]at L2 M2
 rw[f _ _ b c]at L3 M3
 rw[f _ _ b d]at L4 M4
 exact afK h.1 h.2 h'.1 h'.2 L1 L2 L3 L4 M1 M2 M3 M4
theorem SpV.plus_eK{K:Nat}{s t:SpV}(hs:s.eK K)(ht:t.eK K):(s.plus t).eK K:=⟨Jk hs.1 ht.1,Jk hs.2 ht.2⟩
theorem ahn{K:Nat}{s t:SpV}{N N' D:Int}(hs:s.eK K)(ht:t.eK K)(h:inS K s N D)(h':inS K t N' D):inS K (s.plus t) (N+N') D:=by
 obtain⟨a,b⟩:=h
 obtain⟨c,d⟩:=h'
 constructor
 ·show(s.lo.plus t.lo).val K*D≤_
  rw[jG hs.1 ht.1,Int.add_mul];omega
 ·show _≤(s.hi.plus t.hi).val K*D
  rw[jG hs.2 ht.2,Int.add_mul];omega
theorem aWz{K j:Nat}{s:SpV}{N D:Int}(hs:s.eK K)(h:inS K s N D):inS (K+j) s (N*p2 j) D:=by
 have hp:=qZ j
 obtain⟨a,b⟩:=h
 have e1:s.lo.val (K+j)=s.lo.val K*p2 j:=Yi hs.1
 have e2:s.hi.val (K+j)=s.hi.val K*p2 j:=Yi hs.2
 constructor
 ·have:=Int.mul_le_mul_of_nonneg_right a (Int.le_of_lt hp)
  rw[e1,Int.mul_right_comm];exact this
 ·have:=Int.mul_le_mul_of_nonneg_right b (Int.le_of_lt hp)
  rw[e2,Int.mul_right_comm];exact this
theorem atx{K:Nat}{s:SpV}{N D:Int}(hs:s.eK K):inS K s.can N D↔inS K s N D:=by
 unfold inS
 rw[show s.can.lo=s.lo.can from rfl,show s.can.hi=s.hi.can from rfl,XV hs.1,XV hs.2]
theorem SpV.can_eK{K:Nat}{s:SpV}(hs:s.eK K):s.can.eK K:=⟨bbv hs.1 (by omega),bbv hs.2 (by omega)⟩
theorem aKU{K:Nat}{s:SpV}{N D:Int}(hD:0<D)(h:inS K s N D):s.lo.val K≤s.hi.val K:=Int.le_of_mul_le_mul_right (Int.le_trans h.1 h.2) hD
theorem acp{K j:Nat}{x y:ExV}(hx: -(K:Int)≤x.e)(hy: -(K:Int)≤y.e):x.val K≤y.val K↔x.val (K+j)≤y.val (K+j):=by
 rw[Yi hx,Yi hy]
 have hp:(0:Int)<2^j:=qZ j
 exact⟨fun h=>Int.mul_le_mul_of_nonneg_right h (Int.le_of_lt hp),fun h=>Int.le_of_mul_le_mul_right h hp⟩
theorem asj{K:Nat}{s:SpV}(hK:3000≤K)(hs:s.eK K)(h:s.lo.val K≤s.hi.val K):s.tel.ok=true:=by
 unfold SpV.tel
 split
 ·rename_i hf
  have hf:(s.lo.fit&&s.hi.fit)=true:=hf
  rw[Bool.and_eq_true]at hf
  have o1:=ahH hf.1
  have o2:=ahH hf.2
  show(s.lo.can.ok&&(s.hi.can.ok&&decide (s.lo.can.val 3000≤s.hi.can.val 3000)))=true
  rw[o1,o2,Bool.true_and,Bool.true_and]
  refine decide_eq_true ((acp (j:=K-3000) (jv o1).1.1 (jv o2).1.1).2 ?_)
  rw[show 3000+(K-3000)=K by omega,XV hs.1,XV hs.2]
  exact h
 ·decide+kernel
theorem ag0{s:SpV}(h:s.ok=true):s.eK 3000∧s.lo.val 3000≤s.hi.val 3000∧s.lo.ok=true∧s.hi.ok=true:=by
 have h:(s.lo.ok&&(s.hi.ok&&decide (s.lo.val 3000≤s.hi.val 3000)))=true:=h
 simp only[Bool.and_eq_true,decide_eq_true_eq]at h
 exact⟨⟨(jv h.1).1.1,(jv h.2.1).1.1⟩,h.2.2,h.1,h.2.1⟩
end Go.Ab
namespace Go.Ab
open Go Go.Proofs
/-! ### Matrices of intervals-/
structure imatV(n:Nat)(S:List SpV):Prop where
 n1:1≤n
 n4:n≤4
 len:S.length=n*n
 ok:∀s∈S,s.ok=true
theorem imatV.l16{n:Nat}{S:List SpV}(h:imatV n S):S.length≤16:=by rw[h.len];exact jX h.n4
theorem imatV.bd{n:Nat}{S:List SpV}(h:imatV n S):sbd (-3000) 4600 S:=fun s hs=>aPw (h.ok s hs)
def aKP(k:Int)(M:List IvV):Bool:=(decide (1≤k)&&decide (k≤4))&&(decide ((M.length:Int)=k*k)&&M.all ivB)
theorem agw(n:Int)(l:List IvV)(hl:l.length≤1000)(hx:∀v∈l,aWv v):Con Tryz.prog 87 true [.ag [.v (.int .i64 n),.sl l.length (qn IvV.cs l)]] [] (isA (.v (.bool (aKP n l)))):=by
 unfold aKP
 cases h1:(decide (1≤n)&&decide (n≤4))
 ·rw[Bool.false_and]
  refine Con.of_w (rs:=[.tmp 2]) Tryz.func87 rfl Tryz.ntmps87 rfl ?_
  simp(disch:=omega)only[go_sem]
  refine ql (zg n 1 4) ?_
  simp(disch:=omega)only[go_sem]
  simp(disch:=omega)only[go_sem,h1]
  exact qB
 ·rw[Bool.true_and]
  have h1':1≤n∧n≤4:=by simpa using h1
  have hq:0≤n*n∧n*n≤16:=⟨Int.mul_nonneg (by omega) (by omega),Int.mul_le_mul h1'.2 h1'.2 (by omega) (by omega)⟩
  cases h2:decide ((l.length:Int)=n*n)
  ·rw[Bool.false_and]
   refine Con.of_w (rs:=[.tmp 2]) Tryz.func87 rfl Tryz.ntmps87 rfl ?_
   simp(disch:=omega)only[go_sem]
   refine ql (zg n 1 4) ?_
   simp(disch:=omega)only[go_sem]
   simp(disch:=omega)only[go_sem,h1,h2]
   exact qB
  ·rw[Bool.true_and]
   refine Con.of_w (rs:=[.tmp 2]) Tryz.func87 rfl Tryz.ntmps87 rfl ?_
   simp(disch:=omega)only[go_sem]
   refine ql (zg n 1 4) ?_
   simp(disch:=omega)only[go_sem]
   simp(disch:=omega)only[go_sem,h1,h2]
   refine ql (am2 l hl hx) ?_
   simp(disch:=omega)only[go_sem]
   exact qB
theorem aPM(S:List SpV):qn IvV.cs (S.map SpV.iv)=qn SpV.cs S:=by unfold qn;rw[List.map_map];rfl
theorem biM{k:Int}{M:List IvV}(h:aKP k M=true):∃(n:Nat) (S:List SpV),k=n∧M=S.map SpV.iv∧imatV n S:=by
 simp only[aKP,Bool.and_eq_true,decide_eq_true_eq,List.all_eq_true]at h
 obtain⟨⟨h1,h2⟩,h3,h4⟩:=h
 obtain⟨n,rfl⟩:=Int.eq_ofNat_of_zero_le (show 0≤k by omega)
 have hm:M=(M.map IvV.sp).map SpV.iv:=by
  rw[List.map_map]
  conv=>lhs;rw[←List.map_id M]
  refine List.map_congr_left fun v hv=>?_
  obtain⟨s,e, -⟩:=aWy (h4 v hv)
  show v=(IvV.sp v).iv
  rw[e]
  show s.iv=SpV.iv ⟨s.lo.dyv.ex,s.hi.dyv.ex⟩
  rw[af3,af3]
 refine⟨n,M.map IvV.sp,rfl,hm,by omega,by omega,?_,fun s hs=>?_⟩
 ·rw[List.length_map];exact_mod_cast h3
 ·obtain⟨v,hv,rfl⟩:=List.mem_map.1 hs
  have hb:=h4 v hv
  obtain⟨s,e,ho⟩:=aWy hb
  rw[e]
  show SpV.ok ⟨s.lo.dyv.ex,s.hi.dyv.ex⟩=true
  rw[af3,af3];exact ho
theorem atz{n:Nat}{S:List SpV}(h:imatV n S):aKP n (S.map SpV.iv)=true:=by
 unfold aKP
 simp only[Bool.and_eq_true,decide_eq_true_eq,List.all_eq_true]
 refine⟨⟨by have:=h.n1;omega,by have:=h.n4;omega⟩,by rw[List.length_map,h.len,Int.natCast_mul],fun v hv=>?_⟩
 obtain⟨s,hs,rfl⟩:=List.mem_map.1 hv
 rw[aKT];exact h.ok s hs
theorem aty{n:Nat}{S:List SpV}(h:imatV n S):∀v∈S.map SpV.iv,aWv v:=fun v hv=>by
 obtain⟨s,hs,rfl⟩:=List.mem_map.1 hv
 exact aRj (h.ok s hs)
theorem yX(n:Nat)(S:List SpV)(h:imatV n S):Con Tryz.prog 87 true [.ag [.v (.int .i64 (n)),.sl (S).length (qn SpV.cs (S))]] [] (isA (.v (.bool true))):=by
 have c:=agw n (S.map SpV.iv) (by rw[List.length_map];have:=h.l16;omega) (aty h)
 rw[atz h,aPM,List.length_map]at c
 exact c
set_option maxRecDepth 100000 in
theorem JT(n:Int)(l:List SpV)(hl:l.length≤1000):Con Tryz.prog 81 false [.ag [.v (.int .i64 (n)),.sl (l).length (qn SpV.cs (l))]] [] (isA (.ag [.v (.int .i64 (n)),.sl (l).length (qn SpV.cs (l))])):=by
 refine Con.frzA ?_
 refine Con.of_aw Tryz.func81 rfl Tryz.ntmps81 (by simp) (by simp) (by simp) (W.sound ?_)
 show @W Tryz.prog 25 ⟨_⟩ ⟨fun x σ=>@za _ _ _ ⟨_⟩ _ ⟨_⟩ x σ⟩ _ _
 simp(disch:=omega)only[go_sem]
 refine qi (fun i:Nat=>[(10,.sl l.length (qn SpV.cs l)),(11,.v (.int .i64 l.length)),(12,.v (.int .i64 i)),(3,.pt 0 0),(2,.pt 2 0)])
  (fun i=>[(0,.own 0 [.v (.int .i64 n),.rf 1 0 i]),(1,.own 6 (qn SpV.cs (mpT l (id) i))),(2,.own 0 [.v (.int .i64 0),.v (.slice none 0 0)])]) (fun i=>i≤l.length) (fun i=>l.length-i) 0 (by omega)
  ((Le.ghostC 50000000 1 1 6 (zo:=0) (cs:=[.v (.int .i64 n),.v (.slice none 0 0)]) (by simp(disch:=omega)only[go_sem]) rfl (by simp(disch:=omega)only[go_sem])).trans (Le.lst [(0,50000000),(2,40000000)] _ _ rfl (by simp(disch:=omega)only[go_sem]) (by simp(disch:=omega)only[go_sem,yy,Q8,List.set_cons_succ,List.set_cons_zero]))) ?_
 intro i hi
 simp(disch:=omega)only[go_sem]
 refine qg (fun h1=>?_) (fun h1=>?_)
 ·have hi2:i<l.length:=by omega
  have hci:=yt hi2
  have hcut:=zH (jc (F:=id) hi)
  have hml:=jc (F:=id) hi
  have hs:=yz (F:=id) sp0 hi2
  generalize l.getD i sp0=x at*
  simp(disch:=omega)only[go_sem,h1,hci]
  refine⟨by omega,by omega,?_⟩
  refine qv rfl [⟨0,[],[]⟩,⟨1,[],[]⟩,⟨2,[1],[]⟩,⟨3,[1],[]⟩,⟨4,[1],[]⟩,⟨5,[],[]⟩,⟨6,[],[]⟩,⟨7,[],[]⟩] (by kernel_rfl) ?_
  simp(disch:=omega)only[go_sem]
  refine qa (YJ x) ?_
  simp(disch:=omega)only[go_sem]
  simp(disch:=omega)only[go_sem,hcut,y3]
  refine⟨⟨by rw[hml];exact Nat.le_refl _,by omega⟩,qb (i+1) [(1,230000000)] (by show i+1≤_;omega) (by show l.length-(i+1)<l.length-i;omega) rfl (by simp(disch:=omega)only[go_sem];try omega) (by simp(disch:=omega)only[go_sem,hs,id_eq])⟩
 ·simp(disch:=omega)only[go_sem,h1]
  obtain rfl:i=l.length:=by omega
  refine qh [(0,1)] [.own 6 (qn SpV.cs (mpT l (id) l.length))] [] [.ag [.v (.int .i64 n),.rf 0 0 l.length]] rfl (by simp(disch:=omega)only[go_sem]) (by simp(disch:=omega)only[go_sem]) (by simp) (by simp) ?_
  show qI _ 6 _=_
  simp(disch:=omega)only[go_sem,zk,Qq,zH (l:=l.map (id)) (k:=l.length) (List.length_map ..),List.map_id,zH (l:=l) (k:=l.length) rfl]
def fN(n:Nat)(l:List SpV):Nat:=if l.all SpV.fit=true then n else 0
def fT(l:List SpV):List SpV:=if l.all SpV.fit=true then l.map SpV.can else []
theorem amU(n:Nat)(l:List SpV)(hl:l.length≤1000)(hb:sbd (-400000) 400000 l):Con Tryz.prog 72 false [.ag [.v (.int .i64 (n)),.sl (l).length (qn SpV.cs (l))]] [] (isA (.tu [.ag [.v (.int .i64 (fN n l)),.sl (fT l).length (qn SpV.cs (fT l))],.v (.bool (l.all SpV.fit))])):=by
 have c:=JS n l hl hb
 unfold fN fT
 cases h:l.all SpV.fit
 ·rw[h,if_neg (by simp)]at c
  rw[if_neg (by simp),if_neg (by simp)]
  exact c
 ·rw[h,if_pos rfl]at c
  rw[if_pos rfl,if_pos rfl,List.length_map]
  exact c
theorem ba5{n K:Nat}{l:List SpV}(hK:3000≤K)(h1:1≤n)(h4:n≤4)(hl:l.length=n*n)(he:∀s∈l,s.eK K∧s.lo.val K≤s.hi.val K)(h:l.all SpV.fit=true):fN n l=n∧fT l=l.map SpV.can∧imatV n (l.map SpV.can):=by
 refine⟨if_pos h,if_pos h,h1,h4,by rw[List.length_map];exact hl,fun s hs=>?_⟩
 obtain⟨t,ht,rfl⟩:=List.mem_map.1 hs
 have:=asj hK (he t ht).1 (he t ht).2
 rw[show t.tel=t.can from if_pos (List.all_eq_true.1 h t ht)]at this
 exact this
theorem Yd(n n':Nat)(S S':List SpV)(h:imatV n S)(h':imatV n' S'):Con Tryz.prog 80 true [.ag [.v (.int .i64 (n)),.sl (S).length (qn SpV.cs (S))],.ag [.v (.int .i64 (n')),.sl (S').length (qn SpV.cs (S'))]] [] (isA (.v (.bool (decide (n=n'))))):=by
 refine Con.of_aw Tryz.func80 rfl Tryz.ntmps80 (by simp) (by simp) (by simp) (W.sound ?_)
 show @W Tryz.prog 18 ⟨_⟩ ⟨fun x σ=>@za _ _ _ ⟨_⟩ _ ⟨_⟩ x σ⟩ _ _
 simp(disch:=omega)only[go_sem]
 refine ql (yX n S h) ?_
 simp(disch:=omega)only[go_sem]
 refine ql (yX n' S' h') ?_
 simp(disch:=omega)only[go_sem]
 refine qz (by simp(disch:=omega)only[go_sem]) (by simp(disch:=omega)only[go_sem]) ⟨?_,rfl,rfl⟩
 show AV.v (.bool _)=AV.v (.bool _)
 congr 2
 exact decide_eq_decide.2 ⟨fun h=>by omega,fun h=>by omega⟩
def boH(k:Int)(M:List IvV)(k':Int)(M':List IvV):Bool:=aKP k M&&(aKP k' M'&&decide (k=k'))
theorem amx{n:Nat}{S S':List SpV}(h:imatV n S)(h':imatV n S'):sbd (-6000) 9204 (qE n S S'):=fun x hx=>by
 unfold qE gly at hx
 obtain⟨t,ht,rfl⟩:=List.mem_map.1 hx
 have ht:=List.mem_range.1 ht
 have h0:=h.n1
 have hj:=Nat.mod_lt t (show 0<n by omega)
 have hi:t/n<n:=(Nat.div_lt_iff_lt_mul (by omega)).2 ht
 have:=YZ (k:=n) hi hj (Nat.le_refl n) h.len h'.len h.bd h'.bd (by omega)
 exact SpV.bd.mono this (by omega) (by have:=h.n4;omega)
theorem XR(n:Nat)(S S':List SpV)(h:imatV n S)(h':imatV n S'):Con Tryz.prog 17 false [.ag [.v (.int .i64 (n)),.sl (S).length (qn SpV.cs (S))],.ag [.v (.int .i64 (n)),.sl (S').length (qn SpV.cs (S'))]] [] (isA (.tu [.ag [.v (.int .i64 (fN n (qE n S S'))),.sl (fT (qE n S S')).length (qn SpV.cs (fT (qE n S S')))],.v (.bool ((qE n S S').all SpV.fit))])):=by
 refine Con.frzA ?_
 have ca:=Yd n n S S' h h'
 rw[decide_eq_true rfl]at ca
 have l1:=h.l16
 have l2:=h'.l16
 have hq:=jX h.n4
 have co:=jP n S S' h.n4 h.len h'.len (qD h.bd (by omega) (by omega)) (qD h'.bd (by omega) (by omega))
 have cm:=amU n (qE n S S') (by unfold qE;rw[zG];omega) (qD (amx h h') (by omega) (by omega))
 generalize qE n S S'=y at*
 refine Con.of_w (rs:=[.cell 4 30,.tmp 5]) Tryz.func17 rfl Tryz.ntmps17 rfl ?_
 simp(disch:=omega)only[go_sem]
 refine ql (ca) ?_
 simp(disch:=omega)only[go_sem]
 refine qv rfl [⟨0,[],[]⟩,⟨2,[0],[]⟩,⟨1,[2],[]⟩,⟨3,[],[]⟩,⟨4,[],[]⟩,⟨5,[],[]⟩,⟨6,[],[]⟩,⟨7,[],[]⟩,⟨8,[],[]⟩,⟨9,[],[]⟩] (by kernel_rfl) ?_
 simp(disch:=omega)only[go_sem]
 refine qa (JT n S (by omega)) ?_
 simp(disch:=omega)only[go_sem]
 refine qa (JT n S' (by omega)) ?_
 simp(disch:=omega)only[go_sem]
 refine qa (co) ?_
 simp(disch:=omega)only[go_sem]
 refine qa (cm) ?_
 simp(disch:=omega)only[go_sem]
 exact qp
def aHE(S:List SpV)(L:List ExV)(k:Nat):Bool:=(List.range k).all fun i=>aGo (S.getD i sp0) (L.getD i ex0)
theorem XS(n:Nat)(S:List SpV)(L:List ExV)(h:imatV n S)(hL:matV n L):Con Tryz.prog 20 true [.ag [.v (.int .i64 (n)),.sl (S).length (qn SpV.cs (S))],.ag [.v (.int .i64 (n)),.sl (L).length (qn ExV.cs (L))]] [] (isA (.v (.bool (aHE S L (n*n))))):=by
 have l1:=h.l16
 have hS:=h.len
 have hLl:=hL.len
 refine Con.of_w (rs:=[.tmp 4]) Tryz.func20 rfl Tryz.ntmps20 rfl ?_
 simp(disch:=omega)only[go_sem]
 refine ql (yX n S h) ?_
 simp(disch:=omega)only[go_sem]
 refine ql (yo n L hL) ?_
 simp(disch:=omega)only[go_sem]
 refine qi (fun i:Nat=>[(2,.pt 2 0),(3,.pt 3 0),(4,.v (.bool false)),(23,.sl L.length (qn ExV.cs L)),(24,.v (.int .i64 L.length)),(25,.v (.int .i64 i))])
  (fun _=>[(2,.own 0 [.v (.int .i64 n),.sl S.length (qn SpV.cs S)]),(3,.own 0 [.v (.int .i64 n),.sl L.length (qn ExV.cs L)])]) (fun i=>i≤L.length∧∀j,j<i→aGo (S.getD j sp0) (L.getD j ex0)=true) (fun i=>L.length-i) 0 ⟨by omega,fun j hj=>by omega⟩
  (Le.lst [(2,40000000),(3,50000000)] _ _ rfl (by simp(disch:=omega)only[go_sem]) (by simp(disch:=omega)only[go_sem])) ?_
 rintro i ⟨hi,hp⟩
 simp(disch:=omega)only[go_sem]
 refine qg (fun h1=>?_) (fun h1=>?_)
 ·have hi2:i<L.length:=by omega
  have hci:=yt (l:=S) (i:=i) (by omega)
  have hcx:=jA (l:=L) (i:=i) hi2
  have os:=h.ok (S.getD i sp0) (by rw[List.getD_eq_getElem?_getD,List.getElem?_eq_getElem (by omega)];exact List.getElem_mem _)
  have ox:=hL.ok (L.getD i ex0) (by rw[List.getD_eq_getElem?_getD,List.getElem?_eq_getElem hi2];exact List.getElem_mem _)
  have hno:aGo (S.getD i sp0) (L.getD i ex0)=false→aHE S L (n*n)=false:=fun hf=>by
   unfold aHE
   rw[List.all_eq_false]
   exact⟨i,List.mem_range.2 (by omega),by rw[hf];simp⟩
  have hnx:aGo (S.getD i sp0) (L.getD i ex0)=true→∀j,j<i+1→aGo (S.getD j sp0) (L.getD j ex0)=true:=fun hf j hj=>by
   rcases(by omega:j<i∨j=i)with h'|rfl
   ·exact hp j h'
   ·exact hf
  have ch:=auo (S.getD i sp0) (L.getD i ex0) os ox
  change Con _ _ _ _ _ (isA (.v (.bool (aGo (S.getD i sp0) (L.getD i ex0)))))at ch
  generalize aGo (S.getD i sp0) (L.getD i ex0)=b at*
  generalize S.getD i sp0=s at*
  generalize L.getD i ex0=x at*
  simp(disch:=omega)only[go_sem,h1,hcx]
  refine⟨by omega,by omega,?_⟩
  refine qv rfl [⟨0,[],[]⟩,⟨1,[],[]⟩,⟨2,[1],[]⟩,⟨3,[],[]⟩,⟨4,[],[]⟩,⟨6,[1,4],[]⟩,⟨5,[6],[]⟩,⟨7,[],[]⟩,⟨8,[],[]⟩,⟨9,[],[]⟩] (by kernel_rfl) ?_
  simp(disch:=omega)only[go_sem,hci]
  refine⟨by omega,by omega,?_⟩
  refine qa (YJ s) ?_
  simp(disch:=omega)only[go_sem]
  refine qa (zZ x.s x.m x.e) ?_
  simp(disch:=omega)only[go_sem]
  refine ql (ch) ?_
  simp(disch:=omega)only[go_sem]
  cases b
  ·rw[hno rfl]
   simp(disch:=omega)only[go_sem]
   exact qB
  ·simp(disch:=omega)only[go_sem]
   exact qb (i+1) [] ⟨by omega,hnx rfl⟩ (by show L.length-(i+1)<L.length-i;omega) rfl (by simp(disch:=omega)only[go_sem];try omega) (by simp(disch:=omega)only[go_sem])
 ·have hall:aHE S L (n*n)=true:=by
   unfold aHE
   exact List.all_eq_true.2 fun j hj=>hp j (by have:=List.mem_range.1 hj;omega)
  rw[hall]
  simp(disch:=omega)only[go_sem,h1]
  exact qB
end Go.Ab
namespace Go.Ab
open Go
section
variable {σ:St}
end
end Go.Ab
namespace Go.Ab
open Go
end Go.Ab
namespace Go.Ab
open Go
section
variable {P:Program}{N:Nat}{Q:Exit→St→Prop}{σ:St}
end
end Go.Ab
namespace Go.Ab
open Go Go.Proofs
/-! ### Drawn matrices of intervals-/
def bop(r:AV):Prop:=∃(n:Int) (l:List IvV),l.length≤16∧(∀v∈l,aWv v)∧r=.ag [.v (.int .i64 n),.sl l.length (qn IvV.cs l)]
section
variable (l:List UInt8)(hl:l.length≤9223372036854775807)(i h:Int)(hi:0≤i∧i≤l.length)
include hl hi
end
def bos(M:List IvV):Prop:=M.length≤16∧∀v∈M,aWv v
end Go.Ab
namespace Go.Ab
open Go Go.Proofs
end Go.Ab
namespace Go.Ab
open Go Go.Proofs
def blh:ExV:=⟨false,5,1⟩
def boy:SpV:=⟨blh,blh⟩
theorem aPx{K:Nat}{s:SpV}{x:ExV}(hK:3000≤K)(hs:s.ok=true)(hx:x.ok=true)(h:inS K s (x.val K) 1):aGo s x=true:=by
 have es:=(ag0 hs).1
 have eb:=(jv hx).1.1
 obtain⟨a,b⟩:=h
 rw[Int.mul_one]at a b
 have e:3000+(K-3000)=K:=by omega
 have a':=(acp (K:=3000) (j:=K-3000) es.1 eb).2 (by rw[e];exact a)
 have b':=(acp (K:=3000) (j:=K-3000) eb es.2).2 (by rw[e];exact b)
 unfold aGo
 rw[decide_eq_true a',decide_eq_true b'];rfl
end Go.Ab
namespace Go.Ab
open Go Go.Proofs
/-! ### Points of matrices of intervals-/
def inM(K:Nat)(S:List SpV)(L:List ExV)(k:Nat):Prop:=∀i,i<k→inS K (S.getD i sp0) ((L.getD i ex0).val K) 1
theorem zB{Y:Type}{l:List Y}{f:Y→SpV}{i:Nat}(h:i<l.length)(d:Y):(l.map f).getD i sp0=f (l.getD i d):=by
 rw[List.getD_eq_getElem?_getD,List.getElem?_map,List.getD_eq_getElem?_getD,List.getElem?_eq_getElem h];rfl
theorem aKs{l:List SpV}{i:Nat}(h:i<l.length):l.getD i sp0∈l:=by
 rw[List.getD_eq_getElem?_getD,List.getElem?_eq_getElem h];exact List.getElem_mem _
theorem atZ{l:List ExV}{i:Nat}(h:i<l.length):l.getD i ex0∈l:=by
 rw[List.getD_eq_getElem?_getD,List.getElem?_eq_getElem h];exact List.getElem_mem _
theorem Xm{n:Nat}{g:Nat→Nat→SpV}{k t:Nat}(h:t<k):(gly n g k).getD t sp0=g (t/n) (t % n):=by
 unfold gly
 have r:(List.range k).getD t 0=t:=by rw[List.getD_eq_getElem?_getD,List.getElem?_range h];rfl
 rw[zB (by rw[List.length_range];exact h) 0,r]
theorem imatV.eK{n K:Nat}{S:List SpV}(h:imatV n S)(hK:3000≤K){i:Nat}(hi:i<n*n):(S.getD i sp0).eK K:=by
 have:=(ag0 (h.ok _ (aKs (by rw[h.len];exact hi)))).1
 exact⟨by have:=this.1;omega,by have:=this.2;omega⟩
theorem aWH{n K:Nat}{S:List SpV}{L:List ExV}(hK:3000≤K)(hS:imatV n S)(hL:matV n L)(h:inM K S L (n*n)):aHE S L (n*n)=true:=by
 unfold aHE
 exact List.all_eq_true.2 fun i hi=>by
  have hi:=List.mem_range.1 hi
  exact aPx hK (hS.ok _ (aKs (by rw[hS.len];exact hi))) (hL.ok _ (atZ (by rw[hL.len];exact hi))) (h i hi)
theorem ahp{n i:Nat}:i/n*n+i % n=i:=by rw[Nat.mul_comm];exact Nat.div_add_mod i n
end Go.Ab
namespace Go.Ab
open Go
/-! ### Rows of which some cells groups are still nought-/
def ocs:Option ExV→List AV
 |none=>z3
 |some x=>x.cs
theorem biG:∀x,(ocs x).length=3:=fun x=>by cases x<;>rfl
theorem aQC{ρ:Nat→Nat}{l:List (Option ExV)}:zQ ρ (qn ocs l)=qn ocs l:=Zc fun x=>by
 cases x with
 |none=>exact ID rfl
 |some x=>exact atY x
theorem aQE{p:Nat→Prop}{l:List (Option ExV)}:AllL p (qn ocs l)=True:=eq_true (Zd fun x=>by
 cases x with
 |none=>simp[ocs,z3,AllL,AV.All]
 |some x=>exact at1 x)
theorem aQD{l:List (Option ExV)}:(qn ocs l).length=l.length*3:=yM biG
attribute [go_sem] aQC aQE aQD
end Go.Ab
namespace Go.Ab
open Go Go.Proofs
/-! ### Widened,rounded and divided matrices of intervals-/
end Go.Ab
namespace Go.Ab
open Go Go.Proofs
def bnN(s t:SpV):Bool:=decide ((as9 s t).lo.val 3000≤(as9 s t).hi.val 3000)
def dgO(n:Nat)(y:ExV):Nat→List (Option ExV)
 |0=>List.replicate (n*n) none
 |k+1=>(dgO n y k).set (k*n+k) (some y)
def dgE(n:Nat)(y:ExV):List ExV:=(dgO n y n).map fun o=>o.getD ex0
end Go.Ab
namespace Go.Ab
open Go Go.Proofs
def blm(s:SpV):ExV:=s.hi.plus s.lo.neg
end Go.Ab
namespace Go.Ab
open Go Go.Proofs
theorem aLs{n K:Nat}{S:List SpV}{X:List ExV}(hK:3000≤K)(h1:1≤n)(h4:n≤4)(hl:S.length=n*n)(eS:∀i,i<n*n→(S.getD i sp0).eK K)(hX:matV n X)(h:inM K S X (n*n))(hf:S.all SpV.fit=true):
  fN n S=n∧fT S=S.map SpV.can∧imatV n (fT S)∧aHE (fT S) X (n*n)=true:=by
 have he:∀s∈S,s.eK K∧s.lo.val K≤s.hi.val K:=fun s hs=>by
  obtain⟨i,hi,rfl⟩:=List.getElem_of_mem hs
  have e:S.getD i sp0=S[i]:=by rw[List.getD_eq_getElem?_getD,List.getElem?_eq_getElem hi];rfl
  rw[←e]
  exact⟨eS i (by omega),aKU (by omega) (h i (by omega))⟩
 obtain⟨f1,f2,f3⟩:=ba5 hK h1 h4 hl he hf
 refine⟨f1,f2,by rw[f2];exact f3,?_⟩
 rw[f2]
 exact aWH hK f3 hX fun i hi=>by
  rw[zB (by omega) sp0]
  exact(atx (eS i hi)).2 (h i hi)
def ex3:ExV:=⟨false,3,0⟩
end Go.Ab
namespace Go.Ab
open Go Go.Proofs
/-! ### What is held of the exponential of any matrix-/
theorem aQr{s:Bool}{m1:Nat}{e1:Int}{m2:Nat}{e2 low mode:Int}(h0:m2≠0):(bl (ovQ s m1 e1 m2 e2 low mode):Int)≤(if(bl m1:Int)+(e1-e2-low)≤0 then 0 else(bl m1:Int)+(e1-e2-low))+1:=by
 have h1:=jC (aPK s (ovA m1 (e1-e2-low)) (ovA m2 (-(e1-e2-low))) mode)
 have h2:=agB (ovA m1 (e1-e2-low)/ovA m2 (-(e1-e2-low)))
 have h3:(bl (ovA m1 (e1-e2-low)/ovA m2 (-(e1-e2-low))):Int)≤if(bl m1:Int)+(e1-e2-low)≤0 then 0 else(bl m1:Int)+(e1-e2-low):=by
  rcases Int.le_total 0 (e1-e2-low)with g|g
  ·have a:=Z2 (ovA m1 (e1-e2-low)) (ovA m2 (-(e1-e2-low)))
   have b:=Yh m1 (e1-e2-low).toNat
   have c:(bl (ovA m1 (e1-e2-low)):Int)≤bl m1+(e1-e2-low):=by unfold ovA;omega
   split<;>omega
  ·have e:ovA m1 (e1-e2-low)=m1:=by unfold ovA;rw[show(e1-e2-low).toNat=0 by omega];simp
   have a:ovA m1 (e1-e2-low)/ovA m2 (-(e1-e2-low))≤m1/2^(-(e1-e2-low)).toNat:=by
    rw[e]
    refine Nat.div_le_div_left ?_ (Nat.pow_pos (by decide))
    unfold ovA
    exact Nat.le_mul_of_pos_left _ (by omega)
   have b:=jC a
   have c:=aLe m1 (-(e1-e2-low)).toNat
   split<;>omega
 unfold ovQ
 omega
theorem ExV.over_bd2{l1 h1 low mode hi:Int}{x y:ExV}(hx:x.bd l1 h1)(h0:y.m≠0)(hy:0≤y.e)(h:h1+1≤hi)(hb:low+1≤hi):(x.over y low mode).bd low hi:=by
 obtain⟨a1,a2,a3⟩:=hx
 refine⟨fun h=>?_,Int.le_refl _,?_⟩
 ·have h:ovQ (x.s != y.s) x.m x.e y.m y.e low mode=0:=h
  show((x.s != y.s)&&decide (ovQ (x.s != y.s) x.m x.e y.m y.e low mode≠0))=false
  rw[decide_eq_false (by rw[h];simp),Bool.and_false]
 ·have:=@aQr (x.s != y.s) x.m x.e y.m y.e low mode h0
  show(bl (ovQ (x.s != y.s) x.m x.e y.m y.e low mode):Int)+low≤hi
  split at this<;>omega
theorem SpV.divd_bd{s:SpV}{lo hi low H:Int}{k:Nat}(hs:s.bd lo hi)(hk:k≠0)(h:hi+1≤H)(hb:low+1≤H):(s.divd k low).bd low H:=by
 have he:∀mode,gbd low H (qX (fun x y=>x.over y low mode) s ⟨exN k,exN k⟩):=by
  intro mode x hx
  have h0:(exN k).m≠0:=hk
  have h1:0≤(exN k).e:=Int.le_refl 0
  simp only[qX,List.mem_cons,List.not_mem_nil,or_false]at hx
  rcases hx with rfl|rfl|rfl|rfl
  ·exact ExV.over_bd2 hs.1 h0 h1 h hb
  ·exact ExV.over_bd2 hs.1 h0 h1 h hb
  ·exact ExV.over_bd2 hs.2 h0 h1 h hb
  ·exact ExV.over_bd2 hs.2 h0 h1 h hb
 exact⟨Jv (he 3) (by simp[qX]),QO (he 2) (by simp[qX])⟩
theorem Yw{n:Nat}:(gId n).length=n*n:=zL
theorem aWL{n:Nat}:gbd 0 1 (gId n):=aHJ fun i j hi hj=>by
 unfold idF
 split
 ·exact⟨(fun h=>by cases h),Int.le_refl _,by show(bl 1:Int)+0≤1;have:bl 1≤1:=zj.2 (by decide);omega⟩
 ·exact abI (by omega) (by omega)
def hvN(y:ExV):Nat:=if y.m=0 then 0 else(y.top+1).toNat
def gSt(n:Nat)(b:List SpV)(w:Int):Nat→List SpV×List SpV
 |0=>((gId n).map ptS,(gId n).map ptS)
 |i+1=>(yT (gSt n b w i).1 ((qE n (gSt n b w i).2 b).map fun s=>s.divd (i+1) w),(qE n (gSt n b w i).2 b).map fun s=>s.divd (i+1) w)
def gSq(n:Nat)(w:Int)(F:List SpV):Nat→List SpV
 |0=>F
 |k+1=>(qE n (gSq n w F k) (gSq n w F k)).map fun s=>s.out w
def gFt(n:Nat)(b:List SpV)(B:Nat):List SpV:=(gSt n b (-(B:Int)) (tmF B)).1.map fun s=>s.fat (ex1.shift (-(B:Int)))
def gB(n:Nat)(L:List ExV)(s:Nat):List SpV:=(qM n L (ex1.shift (-(s:Int)))).map ptS
def yh(n:Nat)(L:List ExV)(s B:Nat)(low:Int):List SpV:=(gSq n (-(B:Int)) (gFt n (gB n L s) B) s).map fun s=>s.out (low-4)
theorem zX{n:Nat}{b:List SpV}{w:Int}:∀i,(gSt n b w i).1.length=n*n∧(gSt n b w i).2.length=n*n
 |0=>by
  have:((gId n).map ptS).length=n*n:=by rw[List.length_map];exact Yw
  exact⟨this,this⟩
 |i+1=>⟨JF.trans (zX i).1,by show(List.map _ _).length=n*n;rw[List.length_map];exact zG⟩
theorem Qw{n:Nat}{w:Int}{F:List SpV}(hF:F.length=n*n):∀k,(gSq n w F k).length=n*n
 |0=>hF
 |k+1=>by show(List.map _ _).length=n*n;rw[List.length_map];exact zG
theorem Y0{lo hi lo' hi':Int}{l:List SpV}{f:SpV→SpV}(h:sbd lo hi l)(hf:∀s:SpV,s.bd lo hi→(f s).bd lo' hi'):sbd lo' hi' (l.map f):=fun x hx=>by
 obtain⟨s,hs,rfl⟩:=List.mem_map.1 hx
 exact hf s (h s hs)
theorem ahs{n:Nat}{b:List SpV}{B:Nat}(hn:n≤4)(hB:1≤B)(hl:b.length=n*n)(hb:sbd (-3100) 0 b):∀i:Nat,sbd (-(B:Int)) (1+7*i) (gSt n b (-(B:Int)) i).1∧sbd (-(B:Int)) (1+6*i) (gSt n b (-(B:Int)) i).2∧sbd (-(B:Int)-3100) (5+6*i) (qE n (gSt n b (-(B:Int)) i).2 b)
 |i=>by
  have key:sbd (-(B:Int)) (1+7*i) (gSt n b (-(B:Int)) i).1∧sbd (-(B:Int)) (1+6*i) (gSt n b (-(B:Int)) i).2:=by
   cases i with
   |zero=>
    have h0:sbd (-(B:Int)) 1 ((gId n).map ptS):=fun x hx=>by
     obtain⟨y,hy,rfl⟩:=List.mem_map.1 hx
     have:=aWL y hy
     exact⟨this.mono (by omega) (by omega),this.mono (by omega) (by omega)⟩
    exact⟨h0,h0⟩
   |succ i=>
    obtain⟨g1,g2,g3⟩:=ahs hn hB hl hb i
    have h2:sbd (-(B:Int)) (1+6*((i+1:Nat):Int)) (gSt n b (-(B:Int)) (i+1)).2:=Y0 g3 fun s hs=>SpV.divd_bd hs (by omega) (by omega) (by omega)
    refine⟨?_,h2⟩
    have:=aIn (lo:= -(B:Int)) (hi:=7+7*(i:Int)) (l:=(gSt n b (-(B:Int)) i).1) (l':=(gSt n b (-(B:Int)) (i+1)).2) (by rw[(zX (i+1)).2,(zX i).1]) (qD g1 (by omega) (by omega)) (qD h2 (by omega) (by omega))
    exact qD this (by omega) (by omega)
  refine⟨key.1,key.2,?_⟩
  have:=abG (zX i).2 hl key.2 hb (by omega)
  exact qD this (by omega) (by omega)
theorem avQ{B:Nat}(hB:B≤148):tmF B≤40:=by
 have h:fct 41*2^40≥2^148:=by decide+kernel
 have key:∀f k:Nat,k≤40→tmS B k f≤40:=by
  intro f
  induction f with
  |zero=>intro k _;show(0:Nat)≤40;omega
  |succ f ih=>
   intro k hk
   unfold tmS
   split
   ·rename_i c
    by_cases e:k=40
    ·subst e
     have c:fct 41*2^40<2^B:=c
     have:=Nat.pow_le_pow_right (n:=2) (by decide) hB
     omega
    ·exact ih (k+1) (by omega)
   ·exact hk
 exact key 402 1 (by omega)
theorem atG{n:Nat}{b:List SpV}{B:Nat}(hn:n≤4)(hB:1≤B∧B≤148)(hl:b.length=n*n)(hb:sbd (-3100) 0 b):sbd (-(B:Int)) 282 (gFt n b B):=by
 have h1:=avQ hB.2
 have h2:=(ahs hn hB.1 hl hb (tmF B)).1
 refine Y0 (qD h2 (Int.le_refl _) (show _≤(281:Int) by omega)) fun s hs=>?_
 have hy:(ex1.shift (-(B:Int))).bd (-(B:Int)) 281:=⟨(fun h=>by cases h),by show _≤(0:Int)+ -(B:Int);omega,by show(bl 1:Int)+(0+ -(B:Int))≤281;have:bl 1≤1:=zj.2 (by decide);omega⟩
 exact SpV.fat_bd hs hy
theorem aht{n:Nat}{F:List SpV}{B:Nat}(hn:n≤4)(hB:1≤B)(hF:F.length=n*n)(hb:sbd (-(B:Int)) 282 F):∀k:Nat,sbd (-((B*2^k:Nat):Int)) (287*2^k-5:Nat) (gSq n (-(B:Int)) F k)∧sbd (-((B*2^(k+1):Nat):Int)) (287*2^(k+1)-6:Nat) (qE n (gSq n (-(B:Int)) F k) (gSq n (-(B:Int)) F k))
 |k=>by
  have hp:1≤2^k:=Nat.pow_pos (by decide)
  have e1:B*2^(k+1)=B*2^k+B*2^k:=by rw[Nat.pow_succ,←Nat.mul_assoc];omega
  have e2:(2:Nat)^(k+1)=2*2^k:=by rw[Nat.pow_succ];omega
  have hBk:B≤B*2^k:=Nat.le_mul_of_pos_right B hp
  have key:sbd (-((B*2^k:Nat):Int)) (287*2^k-5:Nat) (gSq n (-(B:Int)) F k):=by
   cases k with
   |zero=>exact qD hb (by simp) (by simp)
   |succ k=>
    have g:=(aht hn hB hF hb k).2
    have hp':1≤2^k:=Nat.pow_pos (by decide)
    have e2':(2:Nat)^(k+1)=2*2^k:=by rw[Nat.pow_succ];omega
    have hBk':B≤B*2^(k+1):=Nat.le_mul_of_pos_right B (Nat.pow_pos (by decide))
    generalize B*2^(k+1)=P at*
    generalize 2^(k+1)=Q at*
    refine Y0 g fun s hs=>?_
    have:=SpV.out_bd (low:= -(B:Int)) hs (by omega) (by omega)
    exact SpV.bd.mono this (Int.le_refl _) (by omega)
  refine⟨key,?_⟩
  rw[e1,e2]
  generalize B*2^k=P at*
  generalize 2^k=Q at*
  have:=abG (Qw hF k) (Qw hF k) key key (by omega)
  exact qD this (by omega) (by omega)
theorem yQ{n:Nat}{L:List ExV}{s B:Nat}{low:Int}:(yh n L s B low).length=n*n:=by
 show(List.map _ _).length=n*n
 rw[List.length_map]
 refine Qw ?_ s
 show(List.map _ _).length=n*n
 rw[List.length_map];exact(zX _).1
theorem pw8{s B:Nat}(hs:s≤8)(hB:B≤148):2^s≤256∧B*2^s≤37888:=by
 have h1:2^s≤2^8:=Nat.pow_le_pow_right (by decide) hs
 exact⟨h1,Nat.mul_le_mul hB h1⟩
theorem aHD{n:Nat}{L:List ExV}{s B:Nat}{low:Int}(hn:n≤4)(hs:s≤8)(hB:1≤B∧B≤148)(hw: -(B:Int)≤low-4)(hlo:low≤0)(hb:sbd (-3100) 0 (gB n L s)):sbd (-37888) 73473 (yh n L s B low):=by
 obtain⟨q1,q2⟩:=pw8 hs hB.2
 have hl:(gB n L s).length=n*n:=by show(List.map _ _).length=n*n;rw[List.length_map];exact zL
 have hFl:(gFt n (gB n L s) B).length=n*n:=by show(List.map _ _).length=n*n;rw[List.length_map];exact(zX _).1
 have g:=(aht hn hB.1 hFl (atG hn hB hl hb) s).1
 have hp:B≤B*2^s:=Nat.le_mul_of_pos_right B (Nat.pow_pos (by decide))
 refine Y0 (qD g (show(-37888:Int)≤_ by omega) (show _≤(73472:Int) by omega)) fun x hx=>?_
 exact SpV.bd.mono (SpV.out_bd hx (by omega) (by omega)) (by omega) (by omega)
set_option maxRecDepth 100000 in
theorem auG(n:Nat)(L:List ExV)(s B:Nat)(low:Int)(hn:n≤4)(hL:L.length=n*n)(hLb:gbd (-3000) 4600 L)(hs:s≤8)(hw:low-2*(s:Int)-12= -(B:Int))(hlo: -120≤low∧low≤0)(hb:sbd (-3100) 0 (gB n L s))
  (y:ExV) (hy:q6 n L n=y) (h0:y.m=0) (hs0:s=0):Con Tryz.prog 71 false [.ag [.v (.int .i64 (n)),.sl (L).length (qn ExV.cs (L))],.v (.int .i64 low)] [] (isA (.ag [.v (.int .i64 (n)),.sl (yh n L s B low).length (qn SpV.cs (yh n L s B low))])):=by
 refine Con.frzA ?_
 have hB:1≤B∧B≤148:=by omega
 have cn:=Qa n L hn hL (jg hLb (by omega) (by omega))
 rw[hy]at cn
 have byd:y.bd (-3000) 4700:=by rw[←hy];exact(jY hL hLb (by omega) n (Nat.le_refl n)).mono (by omega) (by omega)
 have cz:=Qb y.s y.m y.e
 rw[decide_eq_true h0]at cz
 have hty: -3100≤y.top∧y.top≤4800:=by
  unfold ExV.top
  have:=byd.2
  split<;>omega
 have bsh:(ex1.shift (-(s:Int))).bd (-8) 1:=⟨(fun h=>by cases h),by show(-8:Int)≤0+ -(s:Int);omega,by show(bl 1:Int)+(0+ -(s:Int))≤1;have:bl 1≤1:=zj.2 (by decide);omega⟩
 have cs:=jm ex1 (-(s:Int)) (by decide) (by omega)
 have cg:=yE n L (ex1.shift (-(s:Int))) hn hL (jg hLb (by omega) (by omega)) (bsh.mono (by omega) (by omega))
 have cf:=jo n (qM n L (ex1.shift (-(s:Int)))) (by show(gl _ _ _).length≤_;rw[zL];have:=jX hn;omega)
 change Con _ _ _ _ _ (isA (.ag [.v (.int .i64 (n)),.sl (gB n L s).length (qn SpV.cs (gB n L s))]))at cf
 have hq:=jX hn
 have hbl:(gB n L s).length=n*n:=by show(List.map _ _).length=n*n;rw[List.length_map];exact zL
 have ci:=XJ n hn
 have cfi:=jo n (gId n) (by rw[Yw];omega)
 have hst0:(gId n).map ptS=(gSt n (gB n L s) (-(B:Int)) 0).1:=rfl
 rw[hst0]at cfi
 have hst00:(gSt n (gB n L s) (-(B:Int)) 0).2=(gSt n (gB n L s) (-(B:Int)) 0).1:=rfl
 have ct:=JO B (by omega)
 have cs2:=jm ex1 (-(B:Int)) (by decide) (by omega)
 have bsh2:(ex1.shift (-(B:Int))).bd (-148) 1:=⟨(fun h=>by cases h),by show(-148:Int)≤0+ -(B:Int);omega,by show(bl 1:Int)+(0+ -(B:Int))≤1;have:bl 1≤1:=zj.2 (by decide);omega⟩
 have hSb:=ahs hn hB.1 hbl hb
 have hSl:=fun i=>zX (n:=n) (b:=gB n L s) (w:= -(B:Int)) i
 have htm:=avQ hB.2
 have hFl:(gFt n (gB n L s) B).length=n*n:=by show(List.map _ _).length=n*n;rw[List.length_map];exact(zX _).1
 have cft:=XK n (gSt n (gB n L s) (-(B:Int)) (tmF B)).1 (ex1.shift (-(B:Int))) (by rw[(hSl _).1];omega) (qD (hSb (tmF B)).1 (by omega) (by omega)) (bsh2.mono (by omega) (by omega))
 change Con _ _ _ _ _ (isA (.ag [.v (.int .i64 (n)),.sl (gFt n (gB n L s) B).length (qn SpV.cs (gFt n (gB n L s) B))]))at cft
 obtain⟨q1,q2⟩:=pw8 hs hB.2
 have hFb:=atG hn hB hbl hb
 have hQb:=aht hn hB.1 hFl hFb
 have hQl:=fun k=>Qw (w:= -(B:Int)) hFl k
 have cot:=QX n (gSq n (-(B:Int)) (gFt n (gB n L s) B) s) (low-4) (by rw[hQl];omega) (qD (hQb s).1 (by omega) (by omega)) (by omega)
 change Con _ _ _ _ _ (isA (.ag [.v (.int .i64 (n)),.sl (yh n L s B low).length (qn SpV.cs (yh n L s B low))]))at cot
 have hHl:(yh n L s B low).length=n*n:=yQ
 have hSs:∀i,(gSt n (gB n L s) (-(B:Int)) (i+1)).1=yT (gSt n (gB n L s) (-(B:Int)) i).1 (gSt n (gB n L s) (-(B:Int)) (i+1)).2:=fun _=>rfl
 have hSs2:∀i,(gSt n (gB n L s) (-(B:Int)) (i+1)).2=(qE n (gSt n (gB n L s) (-(B:Int)) i).2 (gB n L s)).map fun x=>x.divd (i+1) (-(B:Int)):=fun _=>rfl
 have hQ0:gSq n (-(B:Int)) (gFt n (gB n L s) B) 0=gFt n (gB n L s) B:=rfl
 have hQs:∀k,gSq n (-(B:Int)) (gFt n (gB n L s) B) (k+1)=(qE n (gSq n (-(B:Int)) (gFt n (gB n L s) B) k) (gSq n (-(B:Int)) (gFt n (gB n L s) B) k)).map fun x=>x.out (-(B:Int)):=fun _=>rfl
 generalize hHH:yh n L s B low=H at*
 generalize gFt n (gB n L s) B=F0 at*
 generalize gB n L s=b at*
 generalize qM n L (ex1.shift (-(s:Int)))=G at*
 generalize gId n=I at*
 refine Con.of_w (rs:=[.cell 4 107]) Tryz.func71 rfl Tryz.ntmps71 rfl ?_
 simp(disch:=omega)only[go_sem]
 refine qa (cn) ?_
 simp(disch:=omega)only[go_sem]
 refine ql (cz) ?_
 simp(disch:=omega)only[go_sem]
 have hs1:(s:Int)=0:=by omega
 rw[show(low-2*0-12:Int)= -(B:Int) by omega]
 refine qv rfl [⟨0,[],[]⟩,⟨2,[0],[]⟩,⟨3,[0],[]⟩,⟨7,[0],[]⟩,⟨1,[0],[100000000]⟩,⟨4,[0],[100000000]⟩,⟨5,[],[100000000]⟩,⟨6,[],[100000000]⟩,⟨8,[],[]⟩] (by kernel_rfl) ?_
 simp(disch:=omega)only[go_sem]
 refine qa (yC) ?_
 simp(disch:=omega)only[go_sem]
 refine qa (cs) ?_ (by simp(disch:=omega)only[go_sem,show(0-0:Int)= -(s:Int) by omega])
 simp(disch:=omega)only[go_sem]
 refine qa (cg) ?_
 simp(disch:=omega)only[go_sem]
 refine qa (cf) ?_
 simp(disch:=omega)only[go_sem]
 refine qa (ci) ?_
 simp(disch:=omega)only[go_sem]
 refine qa (cfi) ?_
 simp(disch:=omega)only[go_sem]
 refine qi (fun i:Nat=>[(1,.v (.int .i64 low)),(4,.pt 0 0),(6,.v (.int .i64 s)),(7,.v (.int .i64 (-(B:Int)))),(8,.pt 1 0),(9,.pt 2 0),(10,.pt 3 0),(11,.v (.int .i64 ((i:Int)+1)))])
  (fun i=>[(0,.own 0 [.v (.int .i64 0),.v (.slice none 0 0)]),(1,.own 0 [.v (.int .i64 n),.sl b.length (qn SpV.cs b)]),(2,.own 0 [.v (.int .i64 n),.sl (gSt n b (-(B:Int)) i).1.length (qn SpV.cs (gSt n b (-(B:Int)) i).1)]),(3,.own 0 [.v (.int .i64 n),.sl (gSt n b (-(B:Int)) i).2.length (qn SpV.cs (gSt n b (-(B:Int)) i).2)])])
  (fun i=>i≤tmF B) (fun i=>tmF B-i) 0 (by omega)
  (Le.lst [(0,60000000),(1,100000000),(2,110000000),(3,120000000)] _ _ rfl (by simp(disch:=omega)only[go_sem,show(0:Int)+1=1 from rfl,hs1]) (by simp(disch:=omega)only[go_sem,hst00])) ?_
 intro i hi
 obtain⟨b1,b2,b3⟩:=hSb i
 obtain⟨l1,l2⟩:=hSl i
 have ei:(i:Int)+1=((i+1:Nat):Int):=by omega
 have cT:=jP n (gSt n b (-(B:Int)) i).2 b hn l2 hbl (qD b2 (by omega) (by omega)) (qD hb (by omega) (by omega))
 have hTl:(qE n (gSt n b (-(B:Int)) i).2 b).length=n*n:=zG
 have cD:=XL n (qE n (gSt n b (-(B:Int)) i).2 b) (i+1) (-(B:Int)) (by omega) (qD b3 (by omega) (by omega)) (by omega) (by omega) (by omega)
 rw[←ei,←hSs2 i]at cD
 simp(disch:=omega)only[go_sem]
 refine ql (ct) ?_
 simp(disch:=omega)only[go_sem]
 refine qg (fun h2=>?_) (fun h2=>?_)
 ·have b4:=(hSb (i+1)).2.1
  have cP:=JU n (gSt n b (-(B:Int)) i).1 (gSt n b (-(B:Int)) (i+1)).2 (by omega) (by rw[l1];exact(hSl (i+1)).2) (qD b1 (by omega) (by omega)) (qD b4 (by omega) (by omega))
  rw[←hSs i]at cP
  generalize qE n (gSt n b (-(B:Int)) i).2 b=T at*
  generalize hS2:(gSt n b (-(B:Int)) (i+1)).2=S2 at*
  generalize hS1:(gSt n b (-(B:Int)) (i+1)).1=S1 at*
  simp(disch:=omega)only[go_sem,h2]
  refine qa (cT) ?_
  simp(disch:=omega)only[go_sem]
  refine qa (cD) ?_
  simp(disch:=omega)only[go_sem]
  refine qa (cP) ?_
  simp(disch:=omega)only[go_sem]
  exact qb (i+1) [] (by show i+1≤tmF B;omega) (by show tmF B-(i+1)<tmF B-i;omega) rfl (by simp(disch:=omega)only[go_sem];try omega) (by simp(disch:=omega)only[go_sem,hS1,hS2])
 ·obtain rfl:i=tmF B:=by omega
  simp(disch:=omega)only[go_sem,h2]
  refine qv rfl [⟨0,[],[]⟩,⟨2,[0],[]⟩,⟨1,[0],[]⟩,⟨3,[0],[]⟩,⟨4,[],[]⟩,⟨5,[],[]⟩] (by kernel_rfl) ?_
  simp(disch:=omega)only[go_sem]
  refine qa (yC) ?_
  simp(disch:=omega)only[go_sem]
  refine qa (cs2) ?_
  simp(disch:=omega)only[go_sem]
  refine qa (cft) ?_
  simp(disch:=omega)only[go_sem]
  refine qi (fun k:Nat=>[(1,.v (.int .i64 low)),(4,.pt 0 0),(7,.v (.int .i64 (-(B:Int)))),(9,.pt 2 0),(58,.v (.int .i64 s)),(59,.v (.int .i64 k))])
   (fun k=>[(0,.own 0 [.v (.int .i64 0),.v (.slice none 0 0)]),(2,.own 0 [.v (.int .i64 n),.sl (gSq n (-(B:Int)) F0 k).length (qn SpV.cs (gSq n (-(B:Int)) F0 k))])]) (fun k=>k≤s) (fun k=>s-k) 0 (by omega) (Le.lst [] _ _ rfl (by simp(disch:=omega)only[go_sem]) (by simp(disch:=omega)only[go_sem,hQ0])) ?_
  intro k hk
  obtain⟨c1,c2⟩:=hQb k
  have lk:=hQl k
  have q3:=pw8 (s:=k) (B:=B) (by omega) hB.2
  simp(disch:=omega)only[go_sem]
  refine qg (fun h3=>?_) (fun h3=>?_)
  ·have q4:=pw8 (s:=k+1) (B:=B) (by omega) hB.2
   have cS:=jP n (gSq n (-(B:Int)) F0 k) (gSq n (-(B:Int)) F0 k) hn lk lk (qD c1 (by omega) (by omega)) (qD c1 (by omega) (by omega))
   have hTl2:(qE n (gSq n (-(B:Int)) F0 k) (gSq n (-(B:Int)) F0 k)).length=n*n:=zG
   have cO:=QX n (qE n (gSq n (-(B:Int)) F0 k) (gSq n (-(B:Int)) F0 k)) (-(B:Int)) (by omega) (qD c2 (by omega) (by omega)) (by omega)
   rw[←hQs k]at cO
   generalize qE n (gSq n (-(B:Int)) F0 k) (gSq n (-(B:Int)) F0 k)=T2 at*
   generalize hK1:gSq n (-(B:Int)) F0 (k+1)=K1 at*
   generalize gSq n (-(B:Int)) F0 k=K0 at*
   simp(disch:=omega)only[go_sem,h3]
   refine qa (cS) ?_
   simp(disch:=omega)only[go_sem]
   refine qa (cO) ?_
   simp(disch:=omega)only[go_sem]
   exact qb (k+1) [] (by show k+1≤s;omega) (by show s-(k+1)<s-k;omega) rfl (by simp(disch:=omega)only[go_sem];try omega) (by simp(disch:=omega)only[go_sem,hK1])
  ·obtain rfl:k=s:=by omega
   simp(disch:=omega)only[go_sem,h3]
   refine qa (cot) ?_
   simp(disch:=omega)only[go_sem]
   exact qp
set_option maxRecDepth 100000 in
theorem auH(n:Nat)(L:List ExV)(s B:Nat)(low:Int)(hn:n≤4)(hL:L.length=n*n)(hLb:gbd (-3000) 4600 L)(hs:s≤8)(hw:low-2*(s:Int)-12= -(B:Int))(hlo: -120≤low∧low≤0)(hb:sbd (-3100) 0 (gB n L s))
  (y:ExV) (hy:q6 n L n=y) (h0:y.m≠0) (hs0:(if 0>y.top+1 then 0 else y.top+1)=(s:Int)):Con Tryz.prog 71 false [.ag [.v (.int .i64 (n)),.sl (L).length (qn ExV.cs (L))],.v (.int .i64 low)] [] (isA (.ag [.v (.int .i64 (n)),.sl (yh n L s B low).length (qn SpV.cs (yh n L s B low))])):=by
 refine Con.frzA ?_
 have hB:1≤B∧B≤148:=by omega
 have cn:=Qa n L hn hL (jg hLb (by omega) (by omega))
 rw[hy]at cn
 have byd:y.bd (-3000) 4700:=by rw[←hy];exact(jY hL hLb (by omega) n (Nat.le_refl n)).mono (by omega) (by omega)
 have cz:=Qb y.s y.m y.e
 rw[decide_eq_false h0]at cz
 have ctp:=aIM y (byd.mono (by omega) (by omega))
 have hty: -3100≤y.top∧y.top≤4800:=by
  unfold ExV.top
  have:=byd.2
  split<;>omega
 have bsh:(ex1.shift (-(s:Int))).bd (-8) 1:=⟨(fun h=>by cases h),by show(-8:Int)≤0+ -(s:Int);omega,by show(bl 1:Int)+(0+ -(s:Int))≤1;have:bl 1≤1:=zj.2 (by decide);omega⟩
 have cs:=jm ex1 (-(s:Int)) (by decide) (by omega)
 have cg:=yE n L (ex1.shift (-(s:Int))) hn hL (jg hLb (by omega) (by omega)) (bsh.mono (by omega) (by omega))
 have cf:=jo n (qM n L (ex1.shift (-(s:Int)))) (by show(gl _ _ _).length≤_;rw[zL];have:=jX hn;omega)
 change Con _ _ _ _ _ (isA (.ag [.v (.int .i64 (n)),.sl (gB n L s).length (qn SpV.cs (gB n L s))]))at cf
 have hq:=jX hn
 have hbl:(gB n L s).length=n*n:=by show(List.map _ _).length=n*n;rw[List.length_map];exact zL
 have ci:=XJ n hn
 have cfi:=jo n (gId n) (by rw[Yw];omega)
 have hst0:(gId n).map ptS=(gSt n (gB n L s) (-(B:Int)) 0).1:=rfl
 rw[hst0]at cfi
 have hst00:(gSt n (gB n L s) (-(B:Int)) 0).2=(gSt n (gB n L s) (-(B:Int)) 0).1:=rfl
 have ct:=JO B (by omega)
 have cs2:=jm ex1 (-(B:Int)) (by decide) (by omega)
 have bsh2:(ex1.shift (-(B:Int))).bd (-148) 1:=⟨(fun h=>by cases h),by show(-148:Int)≤0+ -(B:Int);omega,by show(bl 1:Int)+(0+ -(B:Int))≤1;have:bl 1≤1:=zj.2 (by decide);omega⟩
 have hSb:=ahs hn hB.1 hbl hb
 have hSl:=fun i=>zX (n:=n) (b:=gB n L s) (w:= -(B:Int)) i
 have htm:=avQ hB.2
 have hFl:(gFt n (gB n L s) B).length=n*n:=by show(List.map _ _).length=n*n;rw[List.length_map];exact(zX _).1
 have cft:=XK n (gSt n (gB n L s) (-(B:Int)) (tmF B)).1 (ex1.shift (-(B:Int))) (by rw[(hSl _).1];omega) (qD (hSb (tmF B)).1 (by omega) (by omega)) (bsh2.mono (by omega) (by omega))
 change Con _ _ _ _ _ (isA (.ag [.v (.int .i64 (n)),.sl (gFt n (gB n L s) B).length (qn SpV.cs (gFt n (gB n L s) B))]))at cft
 obtain⟨q1,q2⟩:=pw8 hs hB.2
 have hFb:=atG hn hB hbl hb
 have hQb:=aht hn hB.1 hFl hFb
 have hQl:=fun k=>Qw (w:= -(B:Int)) hFl k
 have cot:=QX n (gSq n (-(B:Int)) (gFt n (gB n L s) B) s) (low-4) (by rw[hQl];omega) (qD (hQb s).1 (by omega) (by omega)) (by omega)
 change Con _ _ _ _ _ (isA (.ag [.v (.int .i64 (n)),.sl (yh n L s B low).length (qn SpV.cs (yh n L s B low))]))at cot
 have hHl:(yh n L s B low).length=n*n:=yQ
 have hSs:∀i,(gSt n (gB n L s) (-(B:Int)) (i+1)).1=yT (gSt n (gB n L s) (-(B:Int)) i).1 (gSt n (gB n L s) (-(B:Int)) (i+1)).2:=fun _=>rfl
 have hSs2:∀i,(gSt n (gB n L s) (-(B:Int)) (i+1)).2=(qE n (gSt n (gB n L s) (-(B:Int)) i).2 (gB n L s)).map fun x=>x.divd (i+1) (-(B:Int)):=fun _=>rfl
 have hQ0:gSq n (-(B:Int)) (gFt n (gB n L s) B) 0=gFt n (gB n L s) B:=rfl
 have hQs:∀k,gSq n (-(B:Int)) (gFt n (gB n L s) B) (k+1)=(qE n (gSq n (-(B:Int)) (gFt n (gB n L s) B) k) (gSq n (-(B:Int)) (gFt n (gB n L s) B) k)).map fun x=>x.out (-(B:Int)):=fun _=>rfl
 generalize hHH:yh n L s B low=H at*
 generalize gFt n (gB n L s) B=F0 at*
 generalize gB n L s=b at*
 generalize qM n L (ex1.shift (-(s:Int)))=G at*
 generalize gId n=I at*
 refine Con.of_w (rs:=[.cell 4 107]) Tryz.func71 rfl Tryz.ntmps71 rfl ?_
 simp(disch:=omega)only[go_sem]
 refine qa (cn) ?_
 simp(disch:=omega)only[go_sem]
 refine ql (cz) ?_
 simp(disch:=omega)only[go_sem]
 refine ql (ctp) ?_
 simp(disch:=omega)only[go_sem]
 rw[hs0,hw]
 refine qv rfl [⟨0,[],[]⟩,⟨2,[0],[]⟩,⟨3,[0],[]⟩,⟨7,[0],[]⟩,⟨1,[0],[100000000]⟩,⟨4,[0],[100000000]⟩,⟨5,[],[100000000]⟩,⟨6,[],[100000000]⟩,⟨8,[],[]⟩] (by kernel_rfl) ?_
 simp(disch:=omega)only[go_sem]
 refine qa (yC) ?_
 simp(disch:=omega)only[go_sem]
 refine qa (cs) ?_ (by simp(disch:=omega)only[go_sem,show(0-(s:Int):Int)= -(s:Int) by omega])
 simp(disch:=omega)only[go_sem]
 refine qa (cg) ?_
 simp(disch:=omega)only[go_sem]
 refine qa (cf) ?_
 simp(disch:=omega)only[go_sem]
 refine qa (ci) ?_
 simp(disch:=omega)only[go_sem]
 refine qa (cfi) ?_
 simp(disch:=omega)only[go_sem]
 refine qi (fun i:Nat=>[(1,.v (.int .i64 low)),(4,.pt 0 0),(6,.v (.int .i64 s)),(7,.v (.int .i64 (-(B:Int)))),(8,.pt 1 0),(9,.pt 2 0),(10,.pt 3 0),(11,.v (.int .i64 ((i:Int)+1)))])
  (fun i=>[(0,.own 0 [.v (.int .i64 0),.v (.slice none 0 0)]),(1,.own 0 [.v (.int .i64 n),.sl b.length (qn SpV.cs b)]),(2,.own 0 [.v (.int .i64 n),.sl (gSt n b (-(B:Int)) i).1.length (qn SpV.cs (gSt n b (-(B:Int)) i).1)]),(3,.own 0 [.v (.int .i64 n),.sl (gSt n b (-(B:Int)) i).2.length (qn SpV.cs (gSt n b (-(B:Int)) i).2)])])
  (fun i=>i≤tmF B) (fun i=>tmF B-i) 0 (by omega)
  (Le.lst [(0,60000000),(1,100000000),(2,110000000),(3,120000000)] _ _ rfl (by simp(disch:=omega)only[go_sem,show(0:Int)+1=1 from rfl]) (by simp(disch:=omega)only[go_sem,hst00])) ?_
 intro i hi
 obtain⟨b1,b2,b3⟩:=hSb i
 obtain⟨l1,l2⟩:=hSl i
 have ei:(i:Int)+1=((i+1:Nat):Int):=by omega
 have cT:=jP n (gSt n b (-(B:Int)) i).2 b hn l2 hbl (qD b2 (by omega) (by omega)) (qD hb (by omega) (by omega))
 have hTl:(qE n (gSt n b (-(B:Int)) i).2 b).length=n*n:=zG
 have cD:=XL n (qE n (gSt n b (-(B:Int)) i).2 b) (i+1) (-(B:Int)) (by omega) (qD b3 (by omega) (by omega)) (by omega) (by omega) (by omega)
 rw[←ei,←hSs2 i]at cD
 simp(disch:=omega)only[go_sem]
 refine ql (ct) ?_
 simp(disch:=omega)only[go_sem]
 refine qg (fun h2=>?_) (fun h2=>?_)
 ·have b4:=(hSb (i+1)).2.1
  have cP:=JU n (gSt n b (-(B:Int)) i).1 (gSt n b (-(B:Int)) (i+1)).2 (by omega) (by rw[l1];exact(hSl (i+1)).2) (qD b1 (by omega) (by omega)) (qD b4 (by omega) (by omega))
  rw[←hSs i]at cP
  generalize qE n (gSt n b (-(B:Int)) i).2 b=T at*
  generalize hS2:(gSt n b (-(B:Int)) (i+1)).2=S2 at*
  generalize hS1:(gSt n b (-(B:Int)) (i+1)).1=S1 at*
  simp(disch:=omega)only[go_sem,h2]
  refine qa (cT) ?_
  simp(disch:=omega)only[go_sem]
  refine qa (cD) ?_
  simp(disch:=omega)only[go_sem]
  refine qa (cP) ?_
  simp(disch:=omega)only[go_sem]
  exact qb (i+1) [] (by show i+1≤tmF B;omega) (by show tmF B-(i+1)<tmF B-i;omega) rfl (by simp(disch:=omega)only[go_sem];try omega) (by simp(disch:=omega)only[go_sem,hS1,hS2])
 ·obtain rfl:i=tmF B:=by omega
  simp(disch:=omega)only[go_sem,h2]
  refine qv rfl [⟨0,[],[]⟩,⟨2,[0],[]⟩,⟨1,[0],[]⟩,⟨3,[0],[]⟩,⟨4,[],[]⟩,⟨5,[],[]⟩] (by kernel_rfl) ?_
  simp(disch:=omega)only[go_sem]
  refine qa (yC) ?_
  simp(disch:=omega)only[go_sem]
  refine qa (cs2) ?_
  simp(disch:=omega)only[go_sem]
  refine qa (cft) ?_
  simp(disch:=omega)only[go_sem]
  refine qi (fun k:Nat=>[(1,.v (.int .i64 low)),(4,.pt 0 0),(7,.v (.int .i64 (-(B:Int)))),(9,.pt 2 0),(58,.v (.int .i64 s)),(59,.v (.int .i64 k))])
   (fun k=>[(0,.own 0 [.v (.int .i64 0),.v (.slice none 0 0)]),(2,.own 0 [.v (.int .i64 n),.sl (gSq n (-(B:Int)) F0 k).length (qn SpV.cs (gSq n (-(B:Int)) F0 k))])]) (fun k=>k≤s) (fun k=>s-k) 0 (by omega) (Le.lst [] _ _ rfl (by simp(disch:=omega)only[go_sem]) (by simp(disch:=omega)only[go_sem,hQ0])) ?_
  intro k hk
  obtain⟨c1,c2⟩:=hQb k
  have lk:=hQl k
  have q3:=pw8 (s:=k) (B:=B) (by omega) hB.2
  simp(disch:=omega)only[go_sem]
  refine qg (fun h3=>?_) (fun h3=>?_)
  ·have q4:=pw8 (s:=k+1) (B:=B) (by omega) hB.2
   have cS:=jP n (gSq n (-(B:Int)) F0 k) (gSq n (-(B:Int)) F0 k) hn lk lk (qD c1 (by omega) (by omega)) (qD c1 (by omega) (by omega))
   have hTl2:(qE n (gSq n (-(B:Int)) F0 k) (gSq n (-(B:Int)) F0 k)).length=n*n:=zG
   have cO:=QX n (qE n (gSq n (-(B:Int)) F0 k) (gSq n (-(B:Int)) F0 k)) (-(B:Int)) (by omega) (qD c2 (by omega) (by omega)) (by omega)
   rw[←hQs k]at cO
   generalize qE n (gSq n (-(B:Int)) F0 k) (gSq n (-(B:Int)) F0 k)=T2 at*
   generalize hK1:gSq n (-(B:Int)) F0 (k+1)=K1 at*
   generalize gSq n (-(B:Int)) F0 k=K0 at*
   simp(disch:=omega)only[go_sem,h3]
   refine qa (cS) ?_
   simp(disch:=omega)only[go_sem]
   refine qa (cO) ?_
   simp(disch:=omega)only[go_sem]
   exact qb (k+1) [] (by show k+1≤s;omega) (by show s-(k+1)<s-k;omega) rfl (by simp(disch:=omega)only[go_sem];try omega) (by simp(disch:=omega)only[go_sem,hK1])
  ·obtain rfl:k=s:=by omega
   simp(disch:=omega)only[go_sem,h3]
   refine qa (cot) ?_
   simp(disch:=omega)only[go_sem]
   exact qp
end Go.Ab
namespace Go.Ab
/-! ### How far a rounded inverse is off-/
end Go.Ab
namespace Go.Ab
/-! ### Sums of the exponential's row,in whole numbers-/
def ab(x:Int):Int:=(x.natAbs:Int)
theorem zT(x y:Int):ab (x*y)=ab x*ab y:=by unfold ab;rw[Int.natAbs_mul,Int.natCast_mul]
theorem agD(x:Int):0≤ab x:=by unfold ab;omega
theorem YQ(x y:Int):ab (x+y)≤ab x+ab y:=by unfold ab;omega
theorem yK{x:Int}(h:0≤x):ab x=x:=by unfold ab;omega
theorem bbV(x:Int):ab (-x)=ab x:=by unfold ab;omega
theorem bbU(f:Nat→Int)(k:Nat):ab (qj f k)≤qj (fun i=>ab (f i)) k:=Jc f k
theorem Qn(B:Int):∀k:Nat,qj (fun _=>B) k=k*B
 |0=>by simp[qj]
 |k+1=>by rw[qj,Qn B k,Int.natCast_add,Int.add_mul];omega
theorem agY{f:Nat→Int}{k:Nat}{B:Int}(h:∀i,i<k→ab (f i)≤B):ab (qj f k)≤k*B:=by
 rw[←Qn]
 exact Int.le_trans (bbU f k) (QE h)
theorem agX{f:Nat→Int}(h:∀i,0≤f i){i:Nat}:∀{k:Nat},i<k→f i≤qj f k
 |0,hk=>by omega
 |k+1,hk=>by
  rw[qj]
  have h0:0≤qj f k:=aa8 fun i _=>h i
  by_cases e:i=k
  ·subst e;omega
  ·have:=agX h (i:=i) (k:=k) (by omega)
   have:=h k
   omega
theorem Jp{n:Nat}{A A' B B':Nat→Nat→Int}{i j:Nat}(h:∀t,t<n→A i t=A' i t)(h':∀t,t<n→B t j=B' t j):qJ n A B i j=qJ n A' B' i j:=
 qs fun t ht=>by rw[h t ht,h' t ht]
theorem aKH{n:Nat}(A:Nat→Nat→Int){i j:Nat}(hj:j<n):qJ n A idI i j=A i j:=by
 unfold qJ
 rw[zP (j:=j) hj (fun t _ hne=>by unfold idI;rw[if_neg hne,Int.mul_zero])]
 unfold idI;rw[if_pos rfl,Int.mul_one]
theorem aKV{n:Nat}(A:Nat→Nat→Int){i j:Nat}(hi:i<n):qJ n idI A i j=A i j:=by
 unfold qJ
 rw[zP (j:=i) hi (fun t _ hne=>by unfold idI;rw[if_neg (fun h=>hne h.symm),Int.zero_mul])]
 unfold idI;rw[if_pos rfl,Int.one_mul]
theorem ag8{n:Nat}(A:Nat→Nat→Int)(a:Nat):∀b i j:Nat,j<n→z8 n A (a+b) i j=qJ n (z8 n A a) (z8 n A b) i j
 |0,i,j,hj=>(aKH _ hj).symm
 |b+1,i,j,hj=>by
  show qJ n (z8 n A (a+b)) A i j=qJ n (z8 n A a) (qJ n (z8 n A b) A) i j
  rw[←y6]
  exact Jp (fun t ht=>ag8 A a b i t ht) (fun t _=>rfl)
theorem as4(n:Nat)(a x:Int)(P A:Nat→Nat→Int)(i j:Nat):qJ n (fun i j=>a*P i j) (fun i j=>x*A i j) i j=a*x*qJ n P A i j:=by
 unfold qJ
 rw[←qQ]
 exact qs fun t _=>by grind
theorem Yp(n:Nat)(x:Int)(A:Nat→Nat→Int):∀t i j:Nat,z8 n (fun i j=>x*A i j) t i j=x^t*z8 n A t i j
 |0,i,j=>by simp[z8]
 |t+1,i,j=>by
  show qJ n (z8 n (fun i j=>x*A i j) t) (fun i j=>x*A i j) i j=x^(t+1)*qJ n (z8 n A t) A i j
  rw[Jp (A':=fun i j=>x^t*z8 n A t i j) (B':=fun i j=>x*A i j) (fun s _=>Yp n x A t i s) (fun _ _=>rfl),as4,Int.pow_succ]
structure smallI(n:Nat)(N:Nat→Nat→Int)(c:Int):Prop where
 pos:0<c
 le:2*nrm N n≤c
theorem aV9(n:Nat):nrm idI n≤1:=Xe (by omega) fun j hj=>by
 have:qj (fun i=>((idI i j).natAbs:Int)) n=((idI j j).natAbs:Int):=zP hj fun i _ hne=>by unfold idI;rw[if_neg hne];rfl
 rw[this];unfold idI;rw[if_pos rfl];decide
theorem ag6{n:Nat}{N:Nat→Nat→Int}{c:Int}(h:smallI n N c):∀t:Nat,2^t*nrm (z8 n N t) n≤c^t
 |0=>by
  have:=aV9 n
  rw[Int.pow_zero,Int.pow_zero,Int.one_mul];exact this
 |t+1=>by
  have ih:=ag6 h t
  have h1:=aQG (n:=n) (A:=z8 n N t) (B:=N) (C:=z8 n N (t+1)) (fun _ _ _ _=>rfl)
  have hN:=Zg N n
  have hp:(0:Int)<2^t:=Int.pow_pos (by omega)
  have hc:(0:Int)<c^t:=Int.pow_pos h.pos
  have h2:2^(t+1)*nrm (z8 n N (t+1)) n≤2^(t+1)*(nrm (z8 n N t) n*nrm N n):=Int.mul_le_mul_of_nonneg_left h1 (Int.le_of_lt (Int.pow_pos (by omega)))
  have h3:(2^t*nrm (z8 n N t) n)*(2*nrm N n)≤c^t*(2*nrm N n):=Int.mul_le_mul_of_nonneg_right ih (by omega)
  have h4:c^t*(2*nrm N n)≤c^t*c:=Int.mul_le_mul_of_nonneg_left h.le (Int.le_of_lt hc)
  have e:(2:Int)^(t+1)*(nrm (z8 n N t) n*nrm N n)=(2^t*nrm (z8 n N t) n)*(2*nrm N n):=by rw[Int.pow_succ];grind
  rw[Int.pow_succ c]
  omega
theorem aK8{n:Nat}(A:Nat→Nat→Int){i j:Nat}(hi:i<n)(hj:j<n):ab (A i j)≤nrm A n:=
 Int.le_trans (agX (f:=fun i=>((A i j).natAbs:Int)) (fun i=>by omega) hi) (Y9 A hj)
theorem ag7{n:Nat}{N:Nat→Nat→Int}{c:Int}(h:smallI n N c)(t:Nat){i j:Nat}(hi:i<n)(hj:j<n):2^t*ab (z8 n N t i j)≤c^t:=
 Int.le_trans (Int.mul_le_mul_of_nonneg_left (aK8 _ hi hj) (Int.le_of_lt (Int.pow_pos (by omega)))) (ag6 h t)
def fr:Nat→Nat→Int
 |0,_=>1
 |T+1,t=>if t≤T then fr T t*((T:Int)+1)else 1
theorem afY:∀T,fr T T=1
 |0=>rfl
 |T+1=>by unfold fr;rw[if_neg (by omega)]
theorem Qk:∀T t,0<fr T t
 |0,t=>by show(0:Int)<1;decide
 |T+1,t=>by
  unfold fr
  split
  ·exact Int.mul_pos (Qk T t) (by omega)
  ·decide
theorem afW{T t:Nat}(h:t≤T):fr (T+1) t=fr T t*((T:Int)+1):=by
 conv=>lhs;unfold fr
 rw[if_pos h]
theorem afX:∀{T t:Nat},t<T→((t:Int)+1)*fr T (t+1)=fr T t
 |0,t,h=>by omega
 |T+1,t,h=>by
  by_cases e:t=T
  ·subst e
   rw[afY,afW (Nat.le_refl t),afY];omega
  ·rw[afW (show t+1≤T by omega),afW (show t≤T by omega),←Int.mul_assoc,afX (by omega)]
theorem aKY{T:Nat}:∀{t:Nat},t≤T→fr T t≤fr T 0
 |0,_=>Int.le_refl _
 |t+1,h=>by
  have h1:=afX (show t<T by omega)
  have h2:=aKY (show t≤T by omega)
  have h3:=Qk T (t+1)
  have h4:1*fr T (t+1)≤((t:Int)+1)*fr T (t+1):=Int.mul_le_mul_of_nonneg_right (by omega) (by omega)
  omega
theorem ahu{k:Nat}:∀{T:Nat},k≤T→fr k 0≤fr T 0
 |0,h=>by
  obtain rfl:k=0:=by omega
  exact Int.le_refl _
 |T+1,h=>by
  by_cases e:k=T+1
  ·rw[e];exact Int.le_refl _
  ·have h1:=ahu (show k≤T by omega)
   have h2:=Qk T 0
   rw[afW (show 0≤T by omega)]
   have h4:fr T 0*1≤fr T 0*((T:Int)+1):=Int.mul_le_mul_of_nonneg_left (by omega) (by omega)
   omega
def eE(n:Nat)(N:Nat→Nat→Int)(c:Int)(T i j:Nat):Int:=qj (fun t=>fr T t*c^(T-t)*z8 n N t i j) (T+1)
def eD(c:Int)(T:Nat):Int:=fr T 0*c^T
theorem jD{c:Int}(h:0<c)(T:Nat):0<eD c T:=Int.mul_pos (Qk T 0) (Int.pow_pos h)
theorem Xz(c:Int)(T:Nat):eD c (T+1)=((T:Int)+1)*c*eD c T:=by
 unfold eD;rw[afW (show 0≤T by omega),Int.pow_succ];grind
theorem at8(n:Nat)(N:Nat→Nat→Int)(c:Int)(T i j:Nat):eE n N c (T+1) i j=((T:Int)+1)*c*eE n N c T i j+z8 n N (T+1) i j:=by
 unfold eE
 rw[qj]
 congr 1
 ·rw[←qQ]
  exact qs fun t ht=>by
   rw[afW (show t≤T by omega),show T+1-t=(T-t)+1 by omega,Int.pow_succ];grind
 ·rw[afY,Nat.sub_self];simp
theorem aSG(n:Nat)(N:Nat→Nat→Int)(c:Int)(i j:Nat):eE n N c 0 i j=idI i j:=by
 unfold eE;simp[qj,fr,z8]
theorem Z0(n:Nat)(x:Int)(N:Nat→Nat→Int)(c:Int)(T i j:Nat):eE n (fun i j=>x*N i j) c T i j=qj (fun t=>(fr T t*x^t*c^(T-t))*z8 n N t i j) (T+1):=by
 unfold eE
 exact qs fun t _=>by rw[Yp];grind
theorem ahr{X P D Dk c' F p q cc:Int}(hc:0≤c')(hD:0≤Dk)(hq:0≤q)(hF0:0≤F)(h:p*q*F*X≤D*Dk*(p-q))(hP:2*p*P≤cc)(hF:F*cc≤c'*D):(2*p)*q*F*(c'*X+P*Dk)≤(c'*D)*Dk*(2*p-q):=by
 have h1:(2*c')*(p*q*F*X)≤(2*c')*(D*Dk*(p-q)):=Int.mul_le_mul_of_nonneg_left h (by omega)
 have h2:(q*F*Dk)*(2*p*P)≤(q*F*Dk)*cc:=Int.mul_le_mul_of_nonneg_left hP (Int.mul_nonneg (Int.mul_nonneg hq hF0) hD)
 have h3:(q*Dk)*(F*cc)≤(q*Dk)*(c'*D):=Int.mul_le_mul_of_nonneg_left hF (Int.mul_nonneg hq hD)
 have e1:(2*p)*q*F*(c'*X+P*Dk)=(2*c')*(p*q*F*X)+(q*F*Dk)*(2*p*P):=by grind
 have e2:(c'*D)*Dk*(2*p-q)=(2*c')*(D*Dk*(p-q))+(q*Dk)*(c'*D):=by grind
 have e3:(q*F*Dk)*cc=(q*Dk)*(F*cc):=by grind
 omega
theorem gap{n:Nat}{N:Nat→Nat→Int}{c:Int}(h:smallI n N c)(k:Nat){i j:Nat}(hi:i<n)(hj:j<n):∀d:Nat,
  2^(k+d)*2^k*fr (k+1) 0*(eE n N c (k+d) i j*eD c k-eE n N c k i j*eD c (k+d))≤eD c (k+d)*eD c k*(2^(k+d)-2^k)∧
  2^(k+d)*2^k*fr (k+1) 0*(-(eE n N c (k+d) i j*eD c k-eE n N c k i j*eD c (k+d)))≤eD c (k+d)*eD c k*(2^(k+d)-2^k)
 |0=>by
  rw[Nat.add_zero]
  constructor
  ·rw[Int.sub_self,Int.mul_zero,Int.sub_self,Int.mul_zero];exact Int.le_refl _
  ·rw[Int.sub_self,Int.sub_self];simp
 |d+1=>by
  obtain⟨g1,g2⟩:=gap h k hi hj d
  rw[←Nat.add_assoc]
  generalize hT:k+d=T at*
  have hF:fr (k+1) 0*c^(T+1)≤(((T:Int)+1)*c)*eD c T:=by
   rw[←Xz]
   exact Int.mul_le_mul_of_nonneg_right (ahu (by omega)) (Int.le_of_lt (Int.pow_pos h.pos))
  have hPe:=ag7 h (T+1) hi hj
  have hp:(0:Int)<2^T:=Int.pow_pos (by omega)
  have e2:(2:Int)^(T+1)=2*2^T:=by rw[Int.pow_succ];omega
  have hc':0≤((T:Int)+1)*c:=Int.mul_nonneg (by omega) (Int.le_of_lt h.pos)
  have hDk:=Int.le_of_lt (jD h.pos k)
  have hq:(0:Int)≤2^k:=Int.le_of_lt (Int.pow_pos (by omega))
  have hF0:=Int.le_of_lt (Qk (k+1) 0)
  rw[e2]at hPe
  have P1:2*2^T*z8 n N (T+1) i j≤c^(T+1):=Int.le_trans (Int.mul_le_mul_of_nonneg_left (by unfold ab;omega) (by omega)) hPe
  have P2:2*2^T* -z8 n N (T+1) i j≤c^(T+1):=Int.le_trans (Int.mul_le_mul_of_nonneg_left (by unfold ab;omega) (by omega)) hPe
  have s1:=ahr hc' hDk hq hF0 g1 P1 hF
  have s2:=ahr hc' hDk hq hF0 g2 P2 hF
  rw[at8,Xz,e2]
  have a1:(((T:Int)+1)*c*eE n N c T i j+z8 n N (T+1) i j)*eD c k-eE n N c k i j*(((T:Int)+1)*c*eD c T)=(((T:Int)+1)*c)*(eE n N c T i j*eD c k-eE n N c k i j*eD c T)+z8 n N (T+1) i j*eD c k:=by grind
  have a2: -((((T:Int)+1)*c*eE n N c T i j+z8 n N (T+1) i j)*eD c k-eE n N c k i j*(((T:Int)+1)*c*eD c T))=(((T:Int)+1)*c)*(-(eE n N c T i j*eD c k-eE n N c k i j*eD c T))+ -z8 n N (T+1) i j*eD c k:=by grind
  rw[a2,a1]
  exact⟨s1,s2⟩
theorem aWJ{n:Nat}{N:Nat→Nat→Int}{c:Int}(h:smallI n N c){k T W:Nat}(hk:k≤T)(hW:(2:Int)^W≤fr (k+1) 0*2^k){i j:Nat}(hi:i<n)(hj:j<n):
  2^W*ab (eE n N c T i j*eD c k-eE n N c k i j*eD c T)≤eD c T*eD c k:=by
 have g:=gap h k hi hj (T-k)
 rw[show k+(T-k)=T by omega]at g
 generalize eE n N c T i j*eD c k-eE n N c k i j*eD c T=X at*
 have hD:0<eD c T*eD c k:=Int.mul_pos (jD h.pos T) (jD h.pos k)
 generalize eD c T*eD c k=D at*
 have hp:(0:Int)<2^T:=Int.pow_pos (by omega)
 have hq:(0:Int)<2^k:=Int.pow_pos (by omega)
 have hX:2^T*2^k*fr (k+1) 0*ab X≤D*(2^T-2^k):=by
  rcases(show ab X=X∨ab X= -X by unfold ab;omega)with e|e
  ·rw[e];exact g.1
  ·rw[e];exact g.2
 have h1:D*(2^T-2^k)≤D*2^T:=Int.mul_le_mul_of_nonneg_left (by omega) (by omega)
 have h2:(fr (k+1) 0*2^k*ab X)*2^T≤D*2^T:=by
  have e:(fr (k+1) 0*2^k*ab X)*2^T=2^T*2^k*fr (k+1) 0*ab X:=by grind
  omega
 have h3:=Int.le_of_mul_le_mul_right h2 hp
 have h4:2^W*ab X≤fr (k+1) 0*2^k*ab X:=Int.mul_le_mul_of_nonneg_right hW (agD X)
 omega
end Go.Ab
namespace Go.Ab
/-! ### Products of sums of the exponential's row-/
theorem tri(f:Nat→Nat→Int):∀m:Nat,qj (fun i=>qj (fun j=>f i j) (m-i)) m=qj (fun k=>qj (fun i=>f i (k-i)) (k+1)) m
 |0=>rfl
 |m+1=>by
  have h1:qj (fun i=>qj (fun j=>f i j) (m+1-i)) m=qj (fun i=>qj (fun j=>f i j) (m-i)+f i (m-i)) m:=qs fun i hi=>by
   rw[show m+1-i=(m-i)+1 by omega,qj]
  have h2:qj (fun j=>f m j) (m+1-m)=f m (m-m):=by
   rw[show m+1-m=0+1 by omega,Nat.sub_self,qj,qj];omega
  rw[qj,h1,jb,h2,tri f m]
  conv=>rhs;rw[qj]
  rw[show qj (fun i=>f i (m-i)) (m+1)=qj (fun i=>f i (m-i)) m+f m (m-m) from rfl]
  omega
theorem asd{g:Nat→Int}{B:Int}(hB:0≤B){a:Nat}:∀{m:Nat},a≤m→(∀j,a≤j→j<m→ab (g j)≤B)→ab (qj g m-qj g a)≤m*B
 |0,h,_=>by
  obtain rfl:a=0:=by omega
  simp[ab]
 |m+1,h,hg=>by
  by_cases e:a=m+1
  ·rw[e,Int.sub_self];exact Int.mul_nonneg (by omega) hB
  ·have ih:=asd hB (show a≤m by omega) (fun j h1 h2=>hg j h1 (by omega))
   have h2:=hg m (by omega) (by omega)
   have h3:=YQ (qj g m-qj g a) (g m)
   rw[qj,Int.natCast_add,Int.add_mul,show qj g m+g m-qj g a=qj g m-qj g a+g m by omega]
   omega
theorem al3{f:Nat→Nat→Int}{B:Int}(hB:0≤B)(m:Nat)(h:∀i j,i<m→j<m→m≤i+j→ab (f i j)≤B):
  ab (qj (fun i=>qj (fun j=>f i j) m) m-qj (fun k=>qj (fun i=>f i (k-i)) (k+1)) m)≤m*(m*B):=by
 rw[←tri]
 have e:qj (fun i=>qj (fun j=>f i j) m) m-qj (fun i=>qj (fun j=>f i j) (m-i)) m=qj (fun i=>qj (fun j=>f i j) m-qj (fun j=>f i j) (m-i)) m:=by
  rw[Int.sub_eq_add_neg,←QD,←jb]
  exact qs fun i _=>by omega
 rw[e]
 exact agY fun i hi=>asd hB (by omega) fun j h1 h2=>h i j hi h2 (by omega)
theorem aSL(f g:Nat→Int)(m k:Nat):qj f m*qj g k=qj (fun i=>qj (fun j=>f i*g j) k) m:=by
 rw[←zC]
 exact qs fun i _=>by rw[qQ]
theorem Y6{n:Nat}(N:Nat→Nat→Int)(a b:Nat→Int)(m:Nat){u v:Nat}(hv:v<n):
  qJ n (fun i j=>qj (fun t=>a t*z8 n N t i j) m) (fun i j=>qj (fun t=>b t*z8 n N t i j) m) u v=qj (fun i=>qj (fun j=>a i*b j*z8 n N (i+j) u v) m) m:=by
 show qj (fun s=>qj (fun t=>a t*z8 n N t u s) m*qj (fun t=>b t*z8 n N t s v) m) n=_
 have e1:qj (fun s=>qj (fun t=>a t*z8 n N t u s) m*qj (fun t=>b t*z8 n N t s v) m) n=qj (fun s=>qj (fun i=>qj (fun j=>a i*z8 n N i u s*(b j*z8 n N j s v)) m) m) n:=qs fun s _=>aSL _ _ m m
 rw[e1,jN]
 refine qs fun i _=>?_
 rw[jN]
 refine qs fun j _=>?_
 rw[ag8 N i j u v hv]
 unfold qJ
 rw[←qQ]
 exact qs fun s _=>by grind
def cv(u v:Nat→Int)(k:Nat):Int:=qj (fun i=>u i*v (k-i)) (k+1)
theorem aSM{T:Nat}{u v:Nat→Int}{x y:Int}(hu:∀i,i<T→((i:Int)+1)*u (i+1)=x*u i)(hv:∀i,i<T→((i:Int)+1)*v (i+1)=y*v i){k:Nat}(hk:k<T):((k:Int)+1)*cv u v (k+1)=(x+y)*cv u v k:=by
 have e1:((k:Int)+1)*cv u v (k+1)=qj (fun i=>((i:Int)*u i)*v (k+1-i)) (k+2)+qj (fun i=>u i*(((k+1-i:Nat):Int)*v (k+1-i))) (k+2):=by
  unfold cv
  rw[←qQ,←jb]
  exact qs fun i hi=>by
   have:((k:Int)+1)=(i:Int)+((k+1-i:Nat):Int):=by omega
   rw[this];grind
 have e2:qj (fun i=>((i:Int)*u i)*v (k+1-i)) (k+2)=x*cv u v k:=by
  rw[Q7]
  have h0:((0:Nat):Int)*u 0*v (k+1-0)=0:=by simp
  rw[h0,Int.zero_add]
  unfold cv
  rw[←qQ]
  exact qs fun i hi=>by
   have:=hu i (by omega)
   rw[show k+1-(i+1)=k-i by omega,show((i+1:Nat):Int)=(i:Int)+1 by omega,this];grind
 have e3:qj (fun i=>u i*(((k+1-i:Nat):Int)*v (k+1-i))) (k+2)=y*cv u v k:=by
  rw[qj,Nat.sub_self]
  have h0:u (k+1)*(((0:Nat):Int)*v 0)=0:=by simp
  rw[h0,Int.add_zero]
  unfold cv
  rw[←qQ]
  exact qs fun i hi=>by
   have:=hv (k-i) (by omega)
   rw[show k+1-i=(k-i)+1 by omega,show((k-i+1:Nat):Int)=((k-i:Nat):Int)+1 by omega,this];grind
 rw[e1,e2,e3];grind
theorem bbg{T:Nat}(x y:Int):∀k,k≤T→cv (fun t=>fr T t*x^t) (fun t=>fr T t*y^t) k=fr T 0*(fr T k*(x+y)^k)
 |0,_=>by simp[cv,qj]
 |k+1,hk=>by
  have ih:=bbg (T:=T) x y k (by omega)
  have hs:∀z:Int,∀i,i<T→((i:Int)+1)*(fr T (i+1)*z^(i+1))=z*(fr T i*z^i):=fun z i hi=>by
   rw[←Int.mul_assoc,afX hi,Int.pow_succ];grind
  have h1:=aSM (u:=fun t=>fr T t*x^t) (v:=fun t=>fr T t*y^t) (hs x) (hs y) (show k<T by omega)
  have h2:=hs (x+y) k (show k<T by omega)
  rw[ih]at h1
  have h3:((k:Int)+1)*cv (fun t=>fr T t*x^t) (fun t=>fr T t*y^t) (k+1)=((k:Int)+1)*(fr T 0*(fr T (k+1)*(x+y)^(k+1))):=by
   rw[h1,Int.mul_left_comm ((k:Int)+1),h2];grind
  exact Int.eq_of_mul_eq_mul_left (show((k:Int)+1)≠0 by omega) h3
theorem ach{x:Int}(hx:ab x≤1):∀t:Nat,ab (x^t)≤1
 |0=>by rw[Int.pow_zero];decide
 |t+1=>by
  have h1:=ach hx t
  rw[Int.pow_succ,zT]
  have h2:ab (x^t)*ab x≤ab (x^t)*1:=Int.mul_le_mul_of_nonneg_left hx (agD _)
  omega
theorem aPf{n:Nat}{N:Nat→Nat→Int}{c:Int}(h:smallI n N c){x y:Int}(hx:ab x≤1)(hy:ab y≤1){T i j:Nat}(hi:i≤T)(hj:j≤T)(hij:T+1≤i+j){u v:Nat}(hu:u<n)(hv:v<n):
  ab ((fr T i*x^i*c^(T-i))*(fr T j*y^j*c^(T-j))*z8 n N (i+j) u v)*2^(T+1)≤eD c T*eD c T:=by
 have hfi:=Qk T i
 have hfj:=Qk T j
 have hf0:=Qk T 0
 have hci:(0:Int)<c^(T-i):=Int.pow_pos h.pos
 have hcj:(0:Int)<c^(T-j):=Int.pow_pos h.pos
 have hcp:(0:Int)<c^(i+j):=Int.pow_pos h.pos
 have hP:=ag7 h (i+j) hu hv
 have hP0:=agD (z8 n N (i+j) u v)
 have h2:(2:Int)^(T+1)≤2^(i+j):=by
  have:(2:Int)^(i+j)=2^(T+1)*2^(i+j-(T+1)):=by rw[←Int.pow_add];congr 1;omega
  have h1:(0:Int)<2^(i+j-(T+1)):=Int.pow_pos (by omega)
  have h3:(0:Int)<2^(T+1):=Int.pow_pos (by omega)
  rw[this]
  have:=Int.mul_le_mul_of_nonneg_left (show(1:Int)≤2^(i+j-(T+1)) by omega) (Int.le_of_lt h3)
  omega
 have key:∀(z:Int) (t:Nat),ab z≤1→t≤T→ab (fr T t*z^t*c^(T-t))≤fr T 0*c^(T-t):=fun z t hz ht=>by
  have hct:(0:Int)<c^(T-t):=Int.pow_pos h.pos
  rw[zT,zT,yK (Int.le_of_lt (Qk T t)),yK (Int.le_of_lt hct)]
  refine Int.mul_le_mul_of_nonneg_right ?_ (Int.le_of_lt hct)
  have h1:fr T t*ab (z^t)≤fr T t*1:=Int.mul_le_mul_of_nonneg_left (ach hz t) (Int.le_of_lt (Qk T t))
  have h2:=aKY ht
  omega
 have ki:=key x i hx hi
 have kj:=key y j hy hj
 rw[zT,zT]
 generalize ab (fr T i*x^i*c^(T-i))=A at*
 have hB0:=agD (fr T j*y^j*c^(T-j))
 generalize ab (fr T j*y^j*c^(T-j))=B at*
 generalize ab (z8 n N (i+j) u v)=P at*
 have s1:A*B≤(fr T 0*c^(T-i))*(fr T 0*c^(T-j)):=Int.le_trans (Int.mul_le_mul_of_nonneg_right ki hB0) (Int.mul_le_mul_of_nonneg_left kj (Int.mul_nonneg (Int.le_of_lt hf0) (Int.le_of_lt hci)))
 have s2:P*2^(T+1)≤c^(i+j):=by
  have:=Int.mul_le_mul_of_nonneg_left h2 hP0
  have e:2^(i+j)*P=P*2^(i+j):=Int.mul_comm _ _
  omega
 have hp2:(0:Int)≤2^(T+1):=Int.le_of_lt (Int.pow_pos (by omega))
 have s3:(A*B)*(P*2^(T+1))≤((fr T 0*c^(T-i))*(fr T 0*c^(T-j)))*c^(i+j):=Int.le_trans (Int.mul_le_mul_of_nonneg_right s1 (Int.mul_nonneg hP0 hp2)) (Int.mul_le_mul_of_nonneg_left s2 (Int.mul_nonneg (Int.mul_nonneg (Int.le_of_lt hf0) (Int.le_of_lt hci)) (Int.mul_nonneg (Int.le_of_lt hf0) (Int.le_of_lt hcj))))
 have e1:A*B*P*2^(T+1)=(A*B)*(P*2^(T+1)):=Int.mul_assoc _ _ _
 have e2:((fr T 0*c^(T-i))*(fr T 0*c^(T-j)))*c^(i+j)=eD c T*eD c T:=by
  have:c^(T-i)*c^(T-j)*c^(i+j)=c^T*c^T:=by
   rw[←Int.pow_add,←Int.pow_add,←Int.pow_add];congr 1;omega
  unfold eD
  have e3:fr T 0*c^(T-i)*(fr T 0*c^(T-j))*c^(i+j)=fr T 0*fr T 0*(c^(T-i)*c^(T-j)*c^(i+j)):=by grind
  rw[e3,this];grind
 omega
theorem aSB{n:Nat}{N:Nat→Nat→Int}{c:Int}(h:smallI n N c){x y:Int}(hx:ab x≤1)(hy:ab y≤1)(T:Nat){u v:Nat}(hu:u<n)(hv:v<n):
  ab (qJ n (eE n (fun i j=>x*N i j) c T) (eE n (fun i j=>y*N i j) c T) u v-eD c T*eE n (fun i j=>(x+y)*N i j) c T u v)*2^(T+1)≤(((T+1:Nat):Int)*((T+1:Nat):Int))*(eD c T*eD c T):=by
 have ex:∀z:Int,eE n (fun i j=>z*N i j) c T=fun i j=>qj (fun t=>(fr T t*z^t*c^(T-t))*z8 n N t i j) (T+1):=fun z=>by
  funext i j;exact Z0 n z N c T i j
 rw[ex x,ex y,Y6 N _ _ _ hv,Z0]
 have e1:eD c T*qj (fun t=>(fr T t*(x+y)^t*c^(T-t))*z8 n N t u v) (T+1)=qj (fun k=>qj (fun i=>(fr T i*x^i*c^(T-i))*(fr T (k-i)*y^(k-i)*c^(T-(k-i)))*z8 n N (i+(k-i)) u v) (k+1)) (T+1):=by
  rw[←qQ]
  refine qs fun k hk=>?_
  have e2:qj (fun i=>(fr T i*x^i*c^(T-i))*(fr T (k-i)*y^(k-i)*c^(T-(k-i)))*z8 n N (i+(k-i)) u v) (k+1)=qj (fun i=>(fr T i*x^i)*(fr T (k-i)*y^(k-i))*(c^T*c^(T-k)*z8 n N k u v)) (k+1):=qs fun i hi=>by
   rw[show i+(k-i)=k by omega]
   have:c^(T-i)*c^(T-(k-i))=c^T*c^(T-k):=by rw[←Int.pow_add,←Int.pow_add];congr 1;omega
   have e3:fr T i*x^i*c^(T-i)*(fr T (k-i)*y^(k-i)*c^(T-(k-i)))*z8 n N k u v=(fr T i*x^i)*(fr T (k-i)*y^(k-i))*((c^(T-i)*c^(T-(k-i)))*z8 n N k u v):=by grind
   rw[e3,this]
  rw[e2,zC]
  have e4:=bbg (T:=T) x y k (by omega)
  unfold cv at e4
  rw[e4]
  unfold eD;grind
 rw[e1]
 have hp:(0:Int)<2^(T+1):=Int.pow_pos (by omega)
 have hD:=Int.le_of_lt (Int.mul_pos (jD h.pos T) (jD h.pos T))
 have key:=al3 (f:=fun i j=>(fr T i*x^i*c^(T-i))*(fr T j*y^j*c^(T-j))*z8 n N (i+j) u v*2^(T+1)) (B:=eD c T*eD c T) hD (T+1) fun i j hi hj hij=>by
  have:=aPf h hx hy (show i≤T by omega) (show j≤T by omega) hij hu hv
  rw[zT,yK (Int.le_of_lt hp)];exact this
 have f1:qj (fun i=>qj (fun j=>(fr T i*x^i*c^(T-i))*(fr T j*y^j*c^(T-j))*z8 n N (i+j) u v*2^(T+1)) (T+1)) (T+1)=qj (fun i=>qj (fun j=>(fr T i*x^i*c^(T-i))*(fr T j*y^j*c^(T-j))*z8 n N (i+j) u v) (T+1)) (T+1)*2^(T+1):=by
  rw[←zC];exact qs fun i _=>zC _ _ _
 have f2:qj (fun k=>qj (fun i=>(fr T i*x^i*c^(T-i))*(fr T (k-i)*y^(k-i)*c^(T-(k-i)))*z8 n N (i+(k-i)) u v*2^(T+1)) (k+1)) (T+1)=qj (fun k=>qj (fun i=>(fr T i*x^i*c^(T-i))*(fr T (k-i)*y^(k-i)*c^(T-(k-i)))*z8 n N (i+(k-i)) u v) (k+1)) (T+1)*2^(T+1):=by
  rw[←zC];exact qs fun i _=>zC _ _ _
 rw[f1,f2,←Int.sub_mul,zT,yK (Int.le_of_lt hp)]at key
 have e5:((T+1:Nat):Int)*(((T+1:Nat):Int)*(eD c T*eD c T))=(((T+1:Nat):Int)*((T+1:Nat):Int))*(eD c T*eD c T):=(Int.mul_assoc _ _ _).symm
 omega
theorem at9(n:Nat)(N:Nat→Nat→Int)(c:Int)(T u v:Nat):eE n (fun i j=>0*N i j) c T u v=eD c T*idI u v:=by
 rw[Z0,Q7]
 have:qj (fun t=>(fr T (t+1)*(0:Int)^(t+1)*c^(T-(t+1)))*z8 n N (t+1) u v) T=0:=by
  refine(qs fun t _=>?_).trans (jM T)
  rw[Int.pow_succ,Int.mul_zero,Int.mul_zero,Int.zero_mul,Int.zero_mul]
 rw[this]
 unfold eD;simp[z8]
theorem aIq{n:Nat}(N:Nat→Nat→Int)(c x y:Int)(T:Nat){u v:Nat}(hv:v<n):
  qJ n (eE n (fun i j=>x*N i j) c T) (eE n (fun i j=>y*N i j) c T) u v=qJ n (eE n (fun i j=>y*N i j) c T) (eE n (fun i j=>x*N i j) c T) u v:=by
 have ex:∀z:Int,eE n (fun i j=>z*N i j) c T=fun i j=>qj (fun t=>(fr T t*z^t*c^(T-t))*z8 n N t i j) (T+1):=fun z=>by
  funext i j;exact Z0 n z N c T i j
 rw[ex x,ex y,Y6 N _ _ _ hv,Y6 N _ _ _ hv,jN]
 refine qs fun i _=>qs fun j _=>?_
 rw[Nat.add_comm j i];grind
end Go.Ab
namespace Go.Ab
/-! ### Squares,and what is aQ4 a multiple of one-/
def trI(n:Nat)(A:Nat→Nat→Int)(i j:Nat):Int:=if i<n∧j<n then A i j else 0
theorem X4{n:Nat}{A:Nat→Nat→Int}{i j:Nat}(hi:i<n)(hj:j<n):trI n A i j=A i j:=if_pos ⟨hi,hj⟩
theorem X3(n:Nat)(A B:Nat→Nat→Int):qJ n (trI n A) (trI n B)=trI n (qJ n A B):=by
 funext i j
 by_cases h:i<n∧j<n
 ·rw[X4 h.1 h.2]
  exact Jp (fun t ht=>X4 h.1 ht) (fun t ht=>X4 ht h.2)
 ·unfold trI
  rw[if_neg h]
  show qj _ n=0
  refine(qs fun t ht=>?_).trans (jM n)
  dsimp only
  by_cases hi:i<n
  ·rw[if_neg (show ¬(t<n∧j<n) from fun g=>h ⟨hi,g.2⟩),Int.mul_zero]
  ·rw[if_neg (show ¬(i<n∧t<n) from fun g=>hi g.1),Int.zero_mul]
def sqI(n:Nat):Nat→(Nat→Nat→Int)→Nat→Nat→Int
 |0,M=>M
 |k+1,M=>qJ n (sqI n k M) (sqI n k M)
def sqD:Nat→Int→Int
 |0,d=>d
 |k+1,d=>sqD k d*sqD k d
theorem jk{d:Int}(h:0<d):∀k,0<sqD k d
 |0=>h
 |k+1=>Int.mul_pos (jk h k) (jk h k)
theorem ash(a b:Int):∀k,sqD k a*sqD k b=sqD k (a*b)
 |0=>rfl
 |k+1=>by
  show sqD k a*sqD k a*(sqD k b*sqD k b)=sqD k (a*b)*sqD k (a*b)
  rw[←ash a b k];grind
theorem aKI(n:Nat)(A B C:Nat→Nat→Int):qJ n (qJ n A B) C=qJ n A (qJ n B C):=by
 funext i j;exact y6 n A B C i j
theorem asg{n:Nat}{X Y:Nat→Nat→Int}(h:qJ n X Y=qJ n Y X):∀k,qJ n (sqI n k X) (sqI n k Y)=qJ n (sqI n k Y) (sqI n k X)∧qJ n (sqI n k X) (sqI n k Y)=sqI n k (qJ n X Y)
 |0=>⟨h,rfl⟩
 |k+1=>by
  obtain⟨h1,h2⟩:=asg h k
  show qJ n (qJ n (sqI n k X) (sqI n k X)) (qJ n (sqI n k Y) (sqI n k Y))=qJ n (qJ n (sqI n k Y) (sqI n k Y)) (qJ n (sqI n k X) (sqI n k X))∧qJ n (qJ n (sqI n k X) (sqI n k X)) (qJ n (sqI n k Y) (sqI n k Y))=qJ n (sqI n k (qJ n X Y)) (sqI n k (qJ n X Y))
  rw[←h2]
  generalize sqI n k X=P at*
  generalize sqI n k Y=Q at*
  have e1:qJ n (qJ n P P) (qJ n Q Q)=qJ n (qJ n P Q) (qJ n P Q):=by
   calc qJ n (qJ n P P) (qJ n Q Q)=qJ n P (qJ n P (qJ n Q Q)):=aKI n P P _
    _=qJ n P (qJ n (qJ n P Q) Q):=by rw[aKI n P Q Q]
    _=qJ n P (qJ n (qJ n Q P) Q):=by rw[h1]
    _=qJ n P (qJ n Q (qJ n P Q)):=by rw[aKI n Q P Q]
    _=qJ n (qJ n P Q) (qJ n P Q):=(aKI n P Q _).symm
  have e2:qJ n (qJ n Q Q) (qJ n P P)=qJ n (qJ n P Q) (qJ n P Q):=by
   calc qJ n (qJ n Q Q) (qJ n P P)=qJ n Q (qJ n Q (qJ n P P)):=aKI n Q Q _
    _=qJ n Q (qJ n (qJ n Q P) P):=by rw[aKI n Q P P]
    _=qJ n Q (qJ n (qJ n P Q) P):=by rw[h1]
    _=qJ n Q (qJ n P (qJ n Q P)):=by rw[aKI n P Q P]
    _=qJ n (qJ n Q P) (qJ n Q P):=(aKI n Q P _).symm
    _=qJ n (qJ n P Q) (qJ n P Q):=by rw[h1]
  exact⟨e1.trans e2.symm,e1⟩
def aQ4(n:Nat)(M:Nat→Nat→Int)(D p q:Int):Prop:=∀u v,u<n→v<n→ab (M u v-D*idI u v)*q≤D*p
theorem aQ3{n:Nat}(hn:n≤4){M:Nat→Nat→Int}{D p q:Int}(hD:0≤D)(hp:0≤p)(hq:0<q)(hpq:p≤q)(h:aQ4 n M D p q):aQ4 n (qJ n M M) (D*D) (6*p) q:=by
 intro u v hu hv
 have e1:qJ n M M u v-D*D*idI u v=2*D*(M u v-D*idI u v)+qj (fun t=>(M u t-D*idI u t)*(M t v-D*idI t v)) n:=by
  have a1:=aKH (n:=n) M (i:=u) hv
  have a2:=aKV (n:=n) M (j:=v) hu
  have a3:=aKV (n:=n) idI (j:=v) hu
  have e2:qj (fun t=>(M u t-D*idI u t)*(M t v-D*idI t v)) n=qJ n M M u v+D*D*qJ n idI idI u v-D*qJ n M idI u v-D*qJ n idI M u v:=by
   unfold qJ
   rw[Int.sub_eq_add_neg,Int.sub_eq_add_neg,←qQ,←qQ,←qQ,←QD,←QD,←jb,←jb,←jb]
   exact qs fun t _=>by grind
  rw[e2,a1,a2,a3];grind
 have hR:∀a b,a<n→b<n→ab (M a b-D*idI a b)≤D:=fun a b ha hb=>by
  have h1:=h a b ha hb
  have h2:D*p≤D*q:=Int.mul_le_mul_of_nonneg_left hpq hD
  exact Int.le_of_mul_le_mul_right (Int.le_trans h1 h2) hq
 have s1:ab (qj (fun t=>(M u t-D*idI u t)*(M t v-D*idI t v)) n*q)≤n*(D*(D*p)):=by
  rw[←zC]
  refine agY fun t ht=>?_
  rw[zT,zT,yK (Int.le_of_lt hq),Int.mul_assoc]
  exact Int.le_trans (Int.mul_le_mul_of_nonneg_right (hR u t hu ht) (Int.mul_nonneg (agD _) (Int.le_of_lt hq))) (Int.mul_le_mul_of_nonneg_left (h t v ht hv) hD)
 rw[e1]
 have s2:=YQ (2*D*(M u v-D*idI u v)) (qj (fun t=>(M u t-D*idI u t)*(M t v-D*idI t v)) n)
 have s3:ab (2*D*(M u v-D*idI u v))*q≤2*D*(D*p):=by
  rw[zT,yK (show 0≤2*D by omega),Int.mul_assoc]
  exact Int.mul_le_mul_of_nonneg_left (h u v hu hv) (by omega)
 rw[zT,yK (Int.le_of_lt hq)]at s1
 have s4:(ab (2*D*(M u v-D*idI u v)+qj (fun t=>(M u t-D*idI u t)*(M t v-D*idI t v)) n))*q≤(ab (2*D*(M u v-D*idI u v))+ab (qj (fun t=>(M u t-D*idI u t)*(M t v-D*idI t v)) n))*q:=Int.mul_le_mul_of_nonneg_right s2 (Int.le_of_lt hq)
 rw[Int.add_mul]at s4
 have s5:(n:Int)*(D*(D*p))≤4*(D*(D*p)):=Int.mul_le_mul_of_nonneg_right (by omega) (Int.mul_nonneg hD (Int.mul_nonneg hD hp))
 have e6:2*D*(D*p)=2*(D*(D*p)):=Int.mul_assoc _ _ _
 have e7:D*D*(6*p)=6*(D*(D*p)):=by grind
 omega
theorem ahc{n:Nat}(hn:n≤4){M:Nat→Nat→Int}{D p q:Int}(hD:0<D)(hp:0≤p)(hq:0<q)(h:aQ4 n M D p q):∀s:Nat,6^s*p≤q→aQ4 n (sqI n s M) (sqD s D) (6^s*p) q
 |0,_=>by rw[show(6:Int)^0*p=p by simp];exact h
 |s+1,hs=>by
  have h6:(0:Int)<6^s:=Int.pow_pos (by omega)
  have h0:0≤6^s*p:=Int.mul_nonneg (Int.le_of_lt h6) hp
  have e:(6:Int)^(s+1)*p=6*(6^s*p):=by rw[Int.pow_succ];grind
  rw[e]at hs ⊢
  exact aQ3 hn (Int.le_of_lt (jk hD s)) h0 hq (by omega) (ahc hn hD hp hq h s (by omega))
theorem aKM{L M D δ p q P:Int}(hD:0<D)(hq:0<q)(hP:0≤P)(h:L*D≤M*P)(hM:ab (M-D*δ)*q≤D*p)(hp:p*P<q):L≤δ*P:=by
 have h1:M*q≤D*δ*q+D*p:=by
  have:=Int.mul_le_mul_of_nonneg_right (show M-D*δ≤ab (M-D*δ) by unfold ab;omega) (Int.le_of_lt hq)
  rw[Int.sub_mul]at this;omega
 have h2:=Int.mul_le_mul_of_nonneg_right h (Int.le_of_lt hq)
 have h3:=Int.mul_le_mul_of_nonneg_right h1 hP
 have h4:D*(p*P)<D*q:=Int.mul_lt_mul_of_pos_left hp hD
 have e1:L*D*q=(L*q)*D:=by grind
 have e2:M*P*q=M*q*P:=by grind
 have e3:(D*δ*q+D*p)*P=(δ*P*q)*D+D*(p*P):=by grind
 have e4:D*q=q*D:=Int.mul_comm _ _
 have h5:(L*q)*D<(δ*P*q+q)*D:=by rw[Int.add_mul];omega
 have h6:=Int.lt_of_mul_lt_mul_right h5 (Int.le_of_lt hD)
 have h7:L*q<(δ*P+1)*q:=by rw[Int.add_mul,Int.one_mul];exact h6
 have:=Int.lt_of_mul_lt_mul_right h7 (Int.le_of_lt hq)
 omega
theorem aWq{H M D δ p q P:Int}(hD:0<D)(hq:0<q)(hP:0≤P)(h:M*P≤H*D)(hM:ab (M-D*δ)*q≤D*p)(hp:p*P<q):δ*P≤H:=by
 have:=aKM (L:= -H) (M:= -M) (δ:= -δ) hD hq hP (by rw[Int.neg_mul,Int.neg_mul];omega) (by
  rw[show-M-D* -δ= -(M-D*δ) by grind,bbV];exact hM) hp
 rw[Int.neg_mul]at this;omega
theorem agZ:∀m:Nat,8≤m→4*(m*m)≤2^m
 |0,h=>by omega
 |m+1,h=>by
  by_cases e:m=7
  ·subst e;decide
  ·have ih:=agZ m (by omega)
   have h1:8*m≤m*m:=Nat.mul_le_mul_right m (by omega)
   rw[Nat.pow_succ]
   have e1:(m+1)*(m+1)=m*m+2*m+1:=by grind
   rw[e1];omega
theorem bkW(s K T0:Nat):∃T:Nat,T0≤T∧(6:Int)^s*(((T+1:Nat):Int)*((T+1:Nat):Int))*2^K<2^(T+1):=by
 refine⟨2*(8+3*s+K+T0)-1,by omega,?_⟩
 have hm:8≤8+3*s+K+T0:=by omega
 have h1:=agZ _ hm
 rw[show 2*(8+3*s+K+T0)-1+1=(8+3*s+K+T0)+(8+3*s+K+T0) by omega]
 have h2:(6:Nat)^s≤2^(3*s):=by rw[Nat.pow_mul];exact Nat.pow_le_pow_left (by decide) s
 have h3:(2:Nat)^(3*s)*2^K<2^(8+3*s+K+T0):=by rw[←Nat.pow_add];exact Nat.pow_lt_pow_right (by decide) (by omega)
 generalize 8+3*s+K+T0=m at*
 have h4:(6:Nat)^s*((m+m)*(m+m))*2^K<2^(m+m):=by
  have e:(m+m)*(m+m)=4*(m*m):=by grind
  rw[e,Nat.pow_add]
  have g1:6^s*(4*(m*m))*2^K≤2^(3*s)*2^m*2^K:=Nat.mul_le_mul_right _ (Nat.mul_le_mul h2 h1)
  have g2:2^(3*s)*2^m*2^K=(2^(3*s)*2^K)*2^m:=by grind
  have g3:(2^(3*s)*2^K)*2^m<2^m*2^m:=Nat.mul_lt_mul_of_pos_right h3 (Nat.pow_pos (by decide))
  omega
 exact_mod_cast h4
end Go.Ab
namespace Go.Ab
open Go Go.Proofs
/-! ### Rational points of matrices of intervals-/
def inR(K:Nat)(s:SpV)(N D:Int):Prop:=inS K s (N*p2 K) D
theorem aWC{K j:Nat}{s:SpV}{N D:Int}(hs:s.eK K)(h:inR K s N D):inR (K+j) s N D:=by
 have:=aWz (j:=j) hs h
 rw[Int.mul_assoc,←zx]at this
 exact this
theorem SpV.eK.up{K K':Nat}{s:SpV}(hs:s.eK K)(h:K≤K'):s.eK K':=by
 obtain⟨a,b⟩:=hs
 exact⟨by omega,by omega⟩
theorem abA{K K':Nat}{s:SpV}{N D:Int}(hs:s.eK K)(h:K≤K')(hi:inR K s N D):inR K' s N D:=by
 have:=aWC (j:=K'-K) hs hi
 rwa[show K+(K'-K)=K' by omega]at this
theorem aWA{K:Nat}{s:SpV}{N D q:Int}(hq:0≤q)(h:inS K s N D):inS K s (N*q) (D*q):=by
 obtain⟨a,b⟩:=h
 have a':=Int.mul_le_mul_of_nonneg_right a hq
 have b':=Int.mul_le_mul_of_nonneg_right b hq
 rw[Int.mul_assoc]at a' b'
 exact⟨a',b'⟩
theorem aWD{K:Nat}{s:SpV}{N D q:Int}(hq:0≤q)(h:inR K s N D):inR K s (N*q) (D*q):=by
 have:=aWA hq h
 rw[Int.mul_right_comm]at this
 exact this
def rtM(n:Nat)(S:List SpV)(M:Nat→Nat→Int)(D:Int):Prop:=∃K:Nat,(∀i,i<n*n→(S.getD i sp0).eK K)∧∀i j,i<n→j<n→inR K (S.getD (i*n+j) sp0) (M i j) D
theorem aU6{n K:Nat}{S:List SpV}{M:Nat→Nat→Int}{D:Int}(h:rtM n S M D)(hS:∀i,i<n*n→(S.getD i sp0).eK K)(hD:0<D){i j:Nat}(hi:i<n)(hj:j<n):inR K (S.getD (i*n+j) sp0) (M i j) D:=by
 obtain⟨K',h1,h2⟩:=h
 have hx:=qV hi hj
 have a:=abA (h1 _ hx) (Nat.le_max_right K K') (h2 i j hi hj)
 obtain⟨j',hj'⟩:∃j',max K K'=K+j':=⟨max K K'-K,by omega⟩
 rw[hj']at a
 obtain⟨b,c⟩:=a
 have e1:(S.getD (i*n+j) sp0).lo.val (K+j')=(S.getD (i*n+j) sp0).lo.val K*p2 j':=Yi (hS _ hx).1
 have e2:(S.getD (i*n+j) sp0).hi.val (K+j')=(S.getD (i*n+j) sp0).hi.val K*p2 j':=Yi (hS _ hx).2
 have hp:=qZ j'
 rw[e1,zx]at b
 rw[e2,zx]at c
 constructor
 ·refine Int.le_of_mul_le_mul_right (a:=p2 j') ?_ hp
  have g1:(S.getD (i*n+j) sp0).lo.val K*p2 j'*D=(S.getD (i*n+j) sp0).lo.val K*D*p2 j':=Int.mul_right_comm _ _ _
  have g2:M i j*(p2 K*p2 j')=M i j*p2 K*p2 j':=(Int.mul_assoc _ _ _).symm
  omega
 ·refine Int.le_of_mul_le_mul_right (a:=p2 j') ?_ hp
  have g1:(S.getD (i*n+j) sp0).hi.val K*p2 j'*D=(S.getD (i*n+j) sp0).hi.val K*D*p2 j':=Int.mul_right_comm _ _ _
  have g2:M i j*(p2 K*p2 j')=M i j*p2 K*p2 j':=(Int.mul_assoc _ _ _).symm
  omega
theorem QI{n:Nat}{S:List SpV}{M M':Nat→Nat→Int}{D:Int}(h:rtM n S M D)(e:∀i j,i<n→j<n→M i j=M' i j):rtM n S M' D:=by
 obtain⟨K,h1,h2⟩:=h
 exact⟨K,h1,fun i j hi hj=>by rw[←e i j hi hj];exact h2 i j hi hj⟩
theorem asz{n:Nat}{S S':List SpV}{M M':Nat→Nat→Int}{D D':Int}(h:rtM n S M D)(h':rtM n S' M' D'):∃K:Nat,((∀i,i<n*n→(S.getD i sp0).eK K)∧∀i j,i<n→j<n→inR K (S.getD (i*n+j) sp0) (M i j) D)∧((∀i,i<n*n→(S'.getD i sp0).eK K)∧∀i j,i<n→j<n→inR K (S'.getD (i*n+j) sp0) (M' i j) D'):=by
 obtain⟨K,h1,h2⟩:=h
 obtain⟨K',h3,h4⟩:=h'
 exact⟨max K K',⟨fun i hi=>(h1 i hi).up (Nat.le_max_left _ _),fun i j hi hj=>abA (h1 _ (qV hi hj)) (Nat.le_max_left _ _) (h2 i j hi hj)⟩,⟨fun i hi=>(h3 i hi).up (Nat.le_max_right _ _),fun i j hi hj=>abA (h3 _ (qV hi hj)) (Nat.le_max_right _ _) (h4 i j hi hj)⟩⟩
theorem ag3{n K:Nat}{S S':List SpV}{M M':Nat→Nat→Int}{D D':Int}(hD:0<D)(hD':0<D'){i j:Nat}(eS:∀i,i<n*n→(S.getD i sp0).eK K)(eS':∀i,i<n*n→(S'.getD i sp0).eK K)(h:∀i t,i<n→t<n→inR K (S.getD (i*n+t) sp0) (M i t) D)(h':∀t j,t<n→j<n→inR K (S'.getD (t*n+j) sp0) (M' t j) D')(hi:i<n)(hj:j<n):
  ∀k,k≤n→inR (K+K) (jy n S S' i j k) (qj (fun t=>M i t*M' t j) k) (D*D')∧(jy n S S' i j k).eK (K+K)
 |0,_=>by
  rw[Za]
  have e:ex0.val (K+K)=0:=Qx _
  refine⟨⟨?_,?_⟩,⟨?_,?_⟩⟩
  ·show ex0.val (K+K)*(D*D')≤0*_;rw[e,Int.zero_mul,Int.zero_mul];exact Int.le_refl _
  ·show 0*_≤ex0.val (K+K)*(D*D');rw[e,Int.zero_mul,Int.zero_mul];exact Int.le_refl _
  ·show-((K+K:Nat):Int)≤0;omega
  ·show-((K+K:Nat):Int)≤0;omega
 |k+1,hk=>by
  obtain⟨h1,h2⟩:=ag3 hD hD' eS eS' h h' hi hj k (by omega)
  have ia:=qV hi (show k<n by omega)
  have ib:=qV (show k<n by omega) hj
  have t:=atw (eS _ ia) (eS' _ ib) hD hD' (h i k hi (by omega)) (h' k j (by omega) hj)
  have e:M i k*p2 K*(M' k j*p2 K)=M i k*M' k j*p2 (K+K):=by rw[zx];grind
  rw[e]at t
  have et:=SpV.times_eK (eS _ ia) (eS' _ ib)
  rw[Zb]
  refine⟨?_,SpV.plus_eK h2 et⟩
  have:=ahn h2 et h1 t
  rw[←Int.add_mul]at this
  exact this
theorem Jh{n:Nat}(hn:1≤n){S S':List SpV}{M M':Nat→Nat→Int}{D D':Int}(hD:0<D)(hD':0<D')(h:rtM n S M D)(h':rtM n S' M' D'):rtM n (qE n S S') (qJ n M M') (D*D'):=by
 obtain⟨K,⟨a,b⟩,c,d⟩:=asz h h'
 have key:=fun i j (hi:i<n) (hj:j<n)=>ag3 hD hD' a c b d hi hj n (Nat.le_refl n)
 refine⟨K+K,fun i hi=>?_,fun i j hi hj=>?_⟩
 ·unfold qE
  rw[Xm hi]
  exact(key _ _ ((Nat.div_lt_iff_lt_mul (by omega)).2 hi) (Nat.mod_lt i (by omega))).2
 ·unfold qE
  rw[Xm (qV hi hj),(ahf hj).1,(ahf hj).2]
  exact(key i j hi hj).1
theorem JG{S S':List SpV}{i:Nat}(hi:i<S.length):(yT S S').getD i sp0=(S.getD i sp0).plus (S'.getD i sp0):=by
 unfold yT
 have r:(List.range S.length).getD i 0=i:=by rw[List.getD_eq_getElem?_getD,List.getElem?_range hi];rfl
 rw[zB (by rw[List.length_range];exact hi) 0,r]
theorem aGA{n:Nat}{S S':List SpV}{M M':Nat→Nat→Int}{D:Int}(hl:S.length=n*n)(h:rtM n S M D)(h':rtM n S' M' D):rtM n (yT S S') (fun i j=>M i j+M' i j) D:=by
 obtain⟨K,⟨a,b⟩,c,d⟩:=asz h h'
 refine⟨K,fun i hi=>?_,fun i j hi hj=>?_⟩
 ·rw[JG (by omega)]
  exact SpV.plus_eK (a i hi) (c i hi)
 ·have hx:=qV hi hj
  rw[JG (by omega)]
  have:=ahn (a _ hx) (c _ hx) (b i j hi hj) (d i j hi hj)
  rw[←Int.add_mul]at this
  exact this
theorem aU5{n:Nat}{S:List SpV}{M:Nat→Nat→Int}{D q:Int}(hq:0≤q)(h:rtM n S M D):rtM n S (fun i j=>M i j*q) (D*q):=by
 obtain⟨K,a,b⟩:=h
 exact⟨K,a,fun i j hi hj=>aWD hq (b i j hi hj)⟩
theorem Y1{n:Nat}{S:List SpV}{M M':Nat→Nat→Int}{D D':Int}{f:SpV→SpV}(hl:S.length=n*n)(h:rtM n S M D)(K0:Nat)(hf:∀K s N N',K0≤K→s.eK K→inR K s N D→(∃i j,i<n∧j<n∧N=M i j∧N'=M' i j)→inR K (f s) N' D'∧(f s).eK K)(hn:1≤n):rtM n (S.map f) M' D':=by
 obtain⟨K,a,b⟩:=h
 have key:=fun i j (hi:i<n) (hj:j<n)=>hf (max K K0) (S.getD (i*n+j) sp0) (M i j) (M' i j) (Nat.le_max_right _ _) ((a _ (qV hi hj)).up (Nat.le_max_left _ _)) (abA (a _ (qV hi hj)) (Nat.le_max_left _ _) (b i j hi hj)) ⟨i,j,hi,hj,rfl,rfl⟩
 refine⟨max K K0,fun i hi=>?_,fun i j hi hj=>?_⟩
 ·rw[zB (by omega) sp0]
  have:=(key (i/n) (i % n) ((Nat.div_lt_iff_lt_mul (by omega)).2 hi) (Nat.mod_lt i (by omega))).2
  rwa[ahp]at this
 ·rw[zB (by rw[hl];exact qV hi hj) sp0]
  exact(key i j hi hj).1
theorem aIx{K k B:Nat}{s:SpV}{N D:Int}(hk:k≠0)(hK:B≤K)(hD:0≤D)(es:s.eK K)(h:inS K s N D):inS K (s.divd k (-(B:Int))) N (D*k)∧(s.divd k (-(B:Int))).eK K:=by
 have hn:(exN k).m≠0:=hk
 have hv:(exN k).val 0=k:=by show sv false k*2^((0:Int)+((0:Nat):Int)).toNat=k;simp[sv]
 have hp:0<p2 K:=qZ K
 have bd:∀(x:ExV) (md:Int), -(K:Int)≤(x.over (exN k) (-(B:Int)) md).e:=fun x md=>by show-(K:Int)≤ -(B:Int);omega
 have d:∀x:ExV, -(K:Int)≤x.e→(x.over (exN k) (-(B:Int)) 3).val K*k≤x.val K∧x.val K≤(x.over (exN k) (-(B:Int)) 2).val K*k:=fun x hx=>by
  have:=(aGW (x:=x) (y:=exN k) (low:= -(B:Int)) (Kx:=K) (Ky:=0) (Kz:=K) hn hx (by show-((0:Nat):Int)≤0;omega) (by omega)).1 rfl
  rw[hv,Nat.zero_add]at this
  exact⟨Int.le_of_mul_le_mul_right this.1 hp,Int.le_of_mul_le_mul_right this.2 hp⟩
 have e3:∀md:Int,Go.Ab.eK K (qX (fun x y=>x.over y (-(B:Int)) md) s ⟨exN k,exN k⟩):=fun md x hx=>by
  simp only[qX,List.mem_cons,List.not_mem_nil,or_false]at hx
  rcases hx with rfl|rfl|rfl|rfl<;>exact bd _ _
 obtain⟨l1,l2⟩:=Zh (e3 3)
 obtain⟨m1,m2⟩:=Jq (e3 2)
 have a:=l1 (s.lo.over (exN k) (-(B:Int)) 3) (by simp[qX])
 have b:=m1 (s.hi.over (exN k) (-(B:Int)) 2) (by simp[qX])
 have c:=(d s.lo es.1).1
 have f:=(d s.hi es.2).2
 have hk0:(0:Int)≤k:=by omega
 have a':=Int.le_trans (Int.mul_le_mul_of_nonneg_right a hk0) c
 have b':=Int.le_trans f (Int.mul_le_mul_of_nonneg_right b hk0)
 have a2:=Int.mul_le_mul_of_nonneg_right a' hD
 have b2:=Int.mul_le_mul_of_nonneg_right b' hD
 obtain⟨h1,h2⟩:=h
 refine⟨⟨?_,?_⟩,l2,m2⟩
 ·show(jf (qX (fun x y=>x.over y (-(B:Int)) 3) s ⟨exN k,exN k⟩)).val K*(D*k)≤N
  rw[Int.mul_comm D,←Int.mul_assoc];omega
 ·show N≤(zw (qX (fun x y=>x.over y (-(B:Int)) 2) s ⟨exN k,exN k⟩)).val K*(D*k)
  rw[Int.mul_comm D,←Int.mul_assoc];omega
theorem ag5{K:Nat}{x:ExV}{low md:Int}(hx: -(K:Int)≤x.e)(hl: -(K:Int)≤low): -(K:Int)≤(x.rnd low md).e:=by
 show-(K:Int)≤roE x.m x.e low
 unfold roE;split<;>omega
theorem aQs{K:Nat}{s:SpV}{N D low:Int}(hl: -(K:Int)≤low)(hD:0≤D)(es:s.eK K)(h:inS K s N D):inS K (s.out low) N D∧(s.out low).eK K:=by
 have r1:=(aKB es.1 hl).1
 have r2:=(aKB es.2 hl).2
 obtain⟨a,b⟩:=h
 exact⟨⟨Int.le_trans (Int.mul_le_mul_of_nonneg_right r1 hD) a,Int.le_trans b (Int.mul_le_mul_of_nonneg_right r2 hD)⟩,ag5 es.1 hl,ag5 es.2 hl⟩
theorem abb{K B:Nat}(h:B≤K):(ex1.shift (-(B:Int))).val K=p2 (K-B):=by
 show sv false 1*2^(0+ -(B:Int)+(K:Int)).toNat=_
 rw[show(0+ -(B:Int)+(K:Int)).toNat=K-B by omega];simp[sv,p2]
theorem aSx{K B:Nat}{s:SpV}{N D N' D':Int}(hB:B≤K)(hD:0<D)(hD':0<D')(es:s.eK K)(h:inR K s N D)(hg:2^B*ab (N'*D-N*D')≤D'*D):inR K (s.fat (ex1.shift (-(B:Int)))) N' D'∧(s.fat (ex1.shift (-(B:Int)))).eK K:=by
 have ey: -(K:Int)≤(ex1.shift (-(B:Int))).e:=by show-(K:Int)≤0+ -(B:Int);omega
 have e1:(s.fat (ex1.shift (-(B:Int)))).lo.val K=s.lo.val K-p2 (K-B):=by
  show(s.lo.plus (ex1.shift (-(B:Int))).neg).val K=_
  rw[jG (y:=ExV.neg (ex1.shift (-(B:Int)))) es.1 ey,afI,abb hB];omega
 have e2:(s.fat (ex1.shift (-(B:Int)))).hi.val K=s.hi.val K+p2 (K-B):=by
  show(s.hi.plus (ex1.shift (-(B:Int)))).val K=_
  rw[jG es.2 ey,abb hB]
 have ep:p2 K=p2 B*p2 (K-B):=QL (by omega)
 have hp:=qZ (K-B)
 have hg2:p2 K*ab (N'*D-N*D')≤D'*D*p2 (K-B):=by
  have:=Int.mul_le_mul_of_nonneg_right hg (Int.le_of_lt hp)
  rw[ep]
  have e:p2 B*p2 (K-B)*ab (N'*D-N*D')=2^B*ab (N'*D-N*D')*p2 (K-B):=by
   show(2:Int)^B*p2 (K-B)*_=_
   grind
  omega
 have hpK:=qZ K
 have g1:p2 K*(N'*D-N*D')≤p2 K*ab (N'*D-N*D'):=Int.mul_le_mul_of_nonneg_left (by unfold ab;omega) (Int.le_of_lt hpK)
 have g2:p2 K* -(N'*D-N*D')≤p2 K*ab (N'*D-N*D'):=Int.mul_le_mul_of_nonneg_left (by unfold ab;omega) (Int.le_of_lt hpK)
 obtain⟨a,b⟩:=h
 have a':=Int.mul_le_mul_of_nonneg_right a (Int.le_of_lt hD')
 have b':=Int.mul_le_mul_of_nonneg_right b (Int.le_of_lt hD')
 refine⟨⟨?_,?_⟩,Jk (y:=ExV.neg (ex1.shift (-(B:Int)))) es.1 ey,Jk es.2 ey⟩
 ·rw[e1]
  refine Int.le_of_mul_le_mul_right (a:=D) ?_ hD
  have q1:(s.lo.val K-p2 (K-B))*D'*D=s.lo.val K*D*D'-D'*D*p2 (K-B):=by grind
  have q2:N'*p2 K*D=N*p2 K*D'+p2 K*(N'*D-N*D'):=by grind
  have q3:p2 K* -(N'*D-N*D')= -(p2 K*(N'*D-N*D')):=by grind
  omega
 ·rw[e2]
  refine Int.le_of_mul_le_mul_right (a:=D) ?_ hD
  have q1:(s.hi.val K+p2 (K-B))*D'*D=s.hi.val K*D*D'+D'*D*p2 (K-B):=by grind
  have q2:N'*p2 K*D=N*p2 K*D'+p2 K*(N'*D-N*D'):=by grind
  omega
theorem aGB{n k B:Nat}{S:List SpV}{M:Nat→Nat→Int}{D:Int}(hn:1≤n)(hk:k≠0)(hD:0≤D)(hl:S.length=n*n)(h:rtM n S M D):rtM n (S.map fun s=>s.divd k (-(B:Int))) M (D*k):=
 Y1 hl h B (fun K s N N' hK es hi ⟨i,j,_,_,e1,e2⟩=>by
  subst e1 e2
  exact aIx hk hK hD es hi) hn
theorem asA{n B:Nat}{S:List SpV}{M:Nat→Nat→Int}{D:Int}(hn:1≤n)(hD:0≤D)(hl:S.length=n*n)(h:rtM n S M D):rtM n (S.map fun s=>s.out (-(B:Int))) M D:=
 Y1 hl h B (fun K s N N' hK es hi ⟨i,j,_,_,e1,e2⟩=>by
  subst e1 e2
  exact aQs (by omega) hD es hi) hn
theorem aPI{n B:Nat}{S:List SpV}{M M':Nat→Nat→Int}{D D':Int}(hn:1≤n)(hD:0<D)(hD':0<D')(hl:S.length=n*n)(h:rtM n S M D)(hg:∀i j,i<n→j<n→2^B*ab (M' i j*D-M i j*D')≤D'*D):rtM n (S.map fun s=>s.fat (ex1.shift (-(B:Int)))) M' D':=
 Y1 hl h B (fun K s N N' hK es hi ⟨i,j,h1,h2,e1,e2⟩=>by
  subst e1 e2
  exact aSx hK hD hD' es hi (hg i j h1 h2)) hn
theorem aKw{n K:Nat}{L:List ExV}(hl:L.length=n*n)(hK:eK K L):rtM n (L.map ptS) (fun i j=>mv K L n i j) (p2 K):=by
 refine⟨K,fun i hi=>?_,fun i j hi hj=>?_⟩
 ·rw[zB (by omega) ex0]
  have:=JI hK (i:=i) (by omega)
  exact⟨this,this⟩
 ·rw[zB (by rw[hl];exact qV hi hj) ex0]
  exact aWB
end Go.Ab
namespace Go.Ab
open Go Go.Proofs
/-! ### What is held has all long sums of the exponential's row-/
theorem aK4:∀k:Nat,((fct k:Nat):Int)=fr k 0
 |0=>rfl
 |k+1=>by
  rw[afW (show 0≤k by omega),←aK4 k]
  show(((k+1)*fct k:Nat):Int)=_
  rw[Int.natCast_mul,Int.mul_comm];rfl
theorem bfn{B:Nat}(hB:B≤148):2^B≤fct (tmF B+1)*2^tmF B:=by
 have h:fct 41*2^40≥2^148:=by decide+kernel
 have key:∀f k:Nat,k≤40→41≤k+f→2^B≤fct (tmS B k f+1)*2^tmS B k f:=by
  intro f
  induction f with
  |zero=>intro k _ _;omega
  |succ f ih=>
   intro k hk hf
   unfold tmS
   split
   ·rename_i c
    by_cases e:k=40
    ·subst e
     have c:fct 41*2^40<2^B:=c
     have:=Nat.pow_le_pow_right (n:=2) (by decide) hB
     omega
    ·exact ih (k+1) (by omega) (by omega)
   ·rename_i c
    exact Nat.le_of_not_lt c
 exact key 402 1 (by omega) (by omega)
theorem aKx{n:Nat}:rtM n ((gId n).map ptS) idI 1:=by
 have h:=aKw (n:=n) (K:=0) (L:=gId n) Yw (fun x hx=>by have:=(aWL x hx).2.1;omega)
 refine QI h fun i j hi hj=>?_
 unfold mv gId
 rw[aHI hi hj]
 unfold idF idI
 split
 ·decide+kernel
 ·exact Qx 0
theorem atE{n B:Nat}{b:List SpV}{N:Nat→Nat→Int}{c:Int}(hn:1≤n)(hc:0<c)(hl:b.length=n*n)(hb:rtM n b N c):∀i:Nat,rtM n (gSt n b (-(B:Int)) i).1 (eE n N c i) (eD c i)∧rtM n (gSt n b (-(B:Int)) i).2 (z8 n N i) (eD c i)
 |0=>by
  have e:eD c 0=1:=by simp[eD,fr]
  rw[e]
  exact⟨QI aKx fun i j _ _=>(aSG n N c i j).symm,aKx⟩
 |i+1=>by
  obtain⟨h1,h2⟩:=atE hn hc hl hb i
  have hD:=jD hc i
  have t:=Jh hn hD hc h2 hb
  have d:=aGB (B:=B) (k:=i+1) hn (by omega) (Int.le_of_lt (Int.mul_pos hD hc)) zG t
  have eD1:eD c i*c*((i+1:Nat):Int)=eD c (i+1):=by rw[Xz];rw[Int.natCast_add];grind
  rw[eD1]at d
  refine⟨?_,d⟩
  have s:=aU5 (q:=((i:Int)+1)*c) (Int.mul_nonneg (by omega) (Int.le_of_lt hc)) h1
  have e2:eD c i*(((i:Int)+1)*c)=eD c (i+1):=by rw[Xz];grind
  rw[e2]at s
  refine QI (aGA (zX i).1 s d) fun u v hu hv=>?_
  rw[at8]
  show eE n N c i u v*(((i:Int)+1)*c)+qJ n (z8 n N i) N u v=_
  rw[Int.mul_comm];rfl
theorem aRG{n B:Nat}{b:List SpV}{N:Nat→Nat→Int}{c:Int}(hn:1≤n)(hB:B≤148)(h:smallI n N c)(hl:b.length=n*n)(hb:rtM n b N c){T:Nat}(hT:tmF B≤T):rtM n (gFt n b B) (eE n N c T) (eD c T):=by
 have hW:(2:Int)^B≤fr (tmF B+1) 0*2^tmF B:=by
  rw[←aK4]
  have:=bfn hB
  exact_mod_cast this
 exact aPI hn (jD h.pos _) (jD h.pos T) (zX _).1 (atE hn h.pos hl hb (tmF B)).1 fun i j hi hj=>aWJ h hT hW hi hj
theorem atF{n B:Nat}{F:List SpV}{M:Nat→Nat→Int}{D:Int}(hn:1≤n)(hD:0<D)(hF:F.length=n*n)(h:rtM n F M D):∀k:Nat,rtM n (gSq n (-(B:Int)) F k) (sqI n k M) (sqD k D)
 |0=>h
 |k+1=>by
  have ih:=atF (B:=B) hn hD hF h k
  exact asA hn (Int.le_of_lt (Int.mul_pos (jk hD k) (jk hD k))) zG (Jh hn (jk hD k) (jk hD k) ih ih)
theorem aWN{n s:Nat}{L:List ExV}:(gB n L s).length=n*n:=by
 show(List.map _ _).length=n*n
 rw[List.length_map];exact zL
theorem Xn{n B:Nat}{b:List SpV}:(gFt n b B).length=n*n:=by
 show(List.map _ _).length=n*n
 rw[List.length_map];exact(zX _).1
theorem atA{n s B:Nat}{L:List ExV}{low:Int}{N:Nat→Nat→Int}{c:Int}(hn:1≤n)(hB:B≤148)(hlo:low≤0)(h:smallI n N c)(hb:rtM n (gB n L s) N c){T:Nat}(hT:tmF B≤T):rtM n (yh n L s B low) (sqI n s (eE n N c T)) (sqD s (eD c T)):=by
 have g:=atF (B:=B) hn (jD h.pos T) Xn (aRG hn hB h aWN hb hT) s
 have o:=asA (B:=(4-low).toNat) hn (Int.le_of_lt (jk (jD h.pos T) s)) (Qw Xn s) g
 have e: -(((4-low).toNat:Nat):Int)=low-4:=by omega
 rw[e]at o
 exact o
theorem biR{n s:Nat}{L:List ExV}{K:Nat}(hl:L.length=n*n)(hK:eK K L):rtM n (gB n L s) (fun i j=>mv K L n i j) (p2 (K+s)):=by
 have ey: -((s:Nat):Int)≤(ex1.shift (-(s:Int))).e:=by show-(s:Int)≤0+ -(s:Int);omega
 have hs:∀i j,i<n→j<n→ -((K+s:Nat):Int)≤((L.getD (i*n+j) ex0).times (ex1.shift (-(s:Int)))).e:=fun i j hi hj=>by
  have a:=JI hK (i:=i*n+j) (by rw[hl];exact qV hi hj)
  show _≤(L.getD (i*n+j) ex0).e+(ex1.shift (-(s:Int))).e
  omega
 have hK2:eK (K+s) (qM n L (ex1.shift (-(s:Int)))):=fun x hx=>by
  obtain⟨t,ht,rfl⟩:=List.mem_map.1 hx
  have ht:=List.mem_range.1 ht
  have hn:0<n:=by
   rcases Nat.eq_zero_or_pos n with e|e
   ·subst e;simp at ht
   ·exact e
  exact hs _ _ (Nat.div_lt_of_lt_mul ht) (Nat.mod_lt t hn)
 refine QI (aKw zL hK2) fun i j hi hj=>?_
 have a:=JI hK (i:=i*n+j) (by rw[hl];exact qV hi hj)
 show(List.getD (gl n _ (n*n)) (i*n+j) ex0).val (K+s)=_
 rw[aHI hi hj,QB a ey,abb (Nat.le_refl s),Nat.sub_self]
 show _*p2 0=_
 rw[show p2 0=1 by decide,Int.mul_one];rfl
theorem aUd{K:Nat}{y:ExV}(h0:y.m≠0)(hs:y.s=false)(hK: -(K:Int)≤y.e)(s:Nat)(ht:y.top+1≤(s:Int)):2*y.val K<p2 (K+s):=by
 have h1:y.top=(bl y.m:Int)+y.e:=by unfold ExV.top;rw[if_neg h0]
 have h2:y.m<2^bl y.m:=zj.1 (Nat.le_refl _)
 have h3:y.val K=(y.m:Int)*p2 (y.e+(K:Int)).toNat:=by
  show sv y.s y.m*2^(y.e+(K:Int)).toNat=_
  rw[hs];simp[sv,p2]
 have hp:=qZ (y.e+(K:Int)).toNat
 have h4:(y.m:Int)*p2 (y.e+(K:Int)).toNat<p2 (bl y.m)*p2 (y.e+(K:Int)).toNat:=Int.mul_lt_mul_of_pos_right (by unfold p2;exact_mod_cast h2) hp
 rw[←zx]at h4
 have h5:p2 (K+s)=p2 (bl y.m+(y.e+(K:Int)).toNat+1)*p2 (K+s-(bl y.m+(y.e+(K:Int)).toNat+1)):=QL (by omega)
 have h6:=qZ (K+s-(bl y.m+(y.e+(K:Int)).toNat+1))
 have h7:p2 (bl y.m+(y.e+(K:Int)).toNat+1)=2*p2 (bl y.m+(y.e+(K:Int)).toNat):=by rw[zx];show _*2=_;omega
 have h8:=qZ (bl y.m+(y.e+(K:Int)).toNat)
 have h9:p2 (bl y.m+(y.e+(K:Int)).toNat+1)*1≤p2 (bl y.m+(y.e+(K:Int)).toNat+1)*p2 (K+s-(bl y.m+(y.e+(K:Int)).toNat+1)):=Int.mul_le_mul_of_nonneg_left (by omega) (by omega)
 omega
theorem aGw{n:Nat}{L:List ExV}{K s:Nat}(hl:L.length=n*n)(hK:eK K L)(hn0:(q6 n L n).s=false)(hs:(q6 n L n).m≠0→(q6 n L n).top+1≤(s:Int)):smallI n (fun i j=>mv K L n i j) (p2 (K+s)):=by
 obtain⟨h1,h2⟩:=yO hK hl n (Nat.le_refl n)
 refine⟨qZ _,?_⟩
 have e:nrm (fun i j=>mv K L n i j) n=(q6 n L n).val K:=h1.symm
 rw[e]
 have hp:=qZ (K+s)
 by_cases h0:(q6 n L n).m=0
 ·have:(q6 n L n).val K=0:=by
   show sv _ (q6 n L n).m*_=0
   rw[h0];simp[sv]
  omega
 ·exact Int.le_of_lt (aUd h0 hn0 h2 s (hs h0))
end Go.Ab
namespace Go.Ab
open Go Go.Proofs
/-! ### What is held is always told:how great its ends are-/
theorem aKy(s:Bool)(a b:Nat)(md:Int)(hb:0<b):rq s a b md*b≤a+b∧a≤rq s a b md*b+b:=by
 have h1:=Nat.div_add_mod a b
 have h2:=Nat.mod_lt a hb
 have h3:a/b*b=b*(a/b):=Nat.mul_comm _ _
 have h4:(a/b+1)*b=b*(a/b)+b:=by rw[Nat.add_mul,Nat.one_mul,Nat.mul_comm]
 unfold rq
 split
 ·omega
 ·split<;>omega
theorem aKp(s:Bool):ab (sv s 1)=1:=by unfold ab;rw[aa7];rfl
theorem aGX{x y:ExV}{low md:Int}{Kx Ky Kz:Nat}(hy0:y.m≠0)(hx: -(Kx:Int)≤x.e)(hy: -(Ky:Int)≤y.e)(hz: -(Kz:Int)≤low):
  ab ((x.over y low md).val Kz*y.val Ky*p2 Kx)≤ab (x.val Kx)*p2 (Ky+Kz)+ab (y.val Ky)*p2 ((low+Kz).toNat+Kx):=by
 obtain⟨a,b,f,hb,hf,e1,e2,e3⟩:=Y8 (mode:=md) hy0 hx hy hz
 obtain⟨h1, -⟩:=aKy (x.s != y.s) a b md hb
 have e2':ab (x.val Kx)*p2 (Ky+Kz)=a*f:=by
  rw[←yK (Int.le_of_lt (qZ (Ky+Kz))),←zT,e2,zT,aKp,Int.one_mul]
  exact yK (Int.mul_nonneg (by omega) (by omega))
 have e3':ab (y.val Ky)*p2 ((low+Kz).toNat+Kx)=b*f:=e3
 rw[e1,e2',e3',zT,aKp,Int.one_mul,yK (Int.mul_nonneg (by omega) (by omega)),←Int.add_mul]
 exact Int.mul_le_mul_of_nonneg_right (by omega) (by omega)
theorem asE{K:Nat}{x:ExV}{low md:Int}(hx: -(K:Int)≤x.e)(hl: -(K:Int)≤low):ab ((x.rnd low md).val K)≤ab (x.val K)+p2 (low+(K:Int)).toNat:=by
 have hpl:=qZ (low+(K:Int)).toNat
 obtain⟨s,m,e⟩:=x
 dsimp only at hx
 by_cases h:low≤e∨m=0
 ·have:ExV.rnd ⟨s,m,e⟩ low md=⟨s,m,e⟩:=by
   unfold ExV.rnd roS roM roE
   dsimp only
   rw[if_pos h,if_pos h,if_pos h]
  rw[this];omega
 ·have hv:(ExV.rnd ⟨s,m,e⟩ low md).val K=sv s (rq s m (2^(low-e).toNat) md*2^(low-e).toNat)*2^(e+(K:Int)).toNat:=by
   unfold ExV.rnd roS roM roE ExV.val
   dsimp only
   rw[if_neg h,if_neg h,if_neg h,abK]
   unfold dv
   rw[agW,Int.natCast_pow,Int.mul_assoc]
   congr 1
   show _=(2:Int)^_*_
   rw[←Int.pow_add]
   congr 1
   omega
  have hx2:(ExV.mk s m e).val K=sv s m*2^(e+(K:Int)).toNat:=rfl
  have ha:∀q:Nat,ab (sv s q)=q:=fun q=>by unfold ab;rw[aa7]
  have hpe:(0:Int)<2^(e+(K:Int)).toNat:=Int.pow_pos (by omega)
  obtain⟨r1, -⟩:=aKy s m (2^(low-e).toNat) md (Nat.pow_pos (by decide))
  rw[hv,hx2,zT,zT,ha,ha,yK (Int.le_of_lt hpe)]
  have e4:p2 (low+(K:Int)).toNat=((2^(low-e).toNat:Nat):Int)*2^(e+(K:Int)).toNat:=by
   rw[Int.natCast_pow]
   show(2:Int)^_=(2:Int)^_*_
   rw[←Int.pow_add]
   congr 1
   omega
  rw[e4,←Int.add_mul]
  exact Int.mul_le_mul_of_nonneg_right (by omega) (Int.le_of_lt hpe)
theorem Xs{F:ExV→ExV→ExV}(hF:∀m x,F m x=m∨F m x=x):∀(l:List ExV) (m:ExV),l.foldl F m∈m::l
 | [],m=>List.mem_cons_self ..
 |y::l,m=>by
  have h:=Xs hF l (F m y)
  rcases List.mem_cons.1 h with h|h
  ·rw[List.foldl_cons,h]
   rcases hF m y with e|e
   ·rw[e];exact List.mem_cons_self ..
   ·rw[e];exact List.mem_cons_of_mem _ (List.mem_cons_self ..)
  ·exact List.mem_cons_of_mem _ (List.mem_cons_of_mem _ h)
theorem Yu{l:List ExV}(h:l≠[]):jf l∈l:=by
 cases l with
 |nil=>exact absurd rfl h
 |cons y l=>exact Xs Jw l y
theorem abu{l:List ExV}(h:l≠[]):zw l∈l:=by
 cases l with
 |nil=>exact absurd rfl h
 |cons y l=>exact Xs ZW l y
def spA(K:Nat)(s:SpV)(q:Int):Prop:=s.eK K∧ab (s.lo.val K)≤q∧ab (s.hi.val K)≤q
theorem asm{K K':Nat}{s t:SpV}{q q':Int}(h:spA K s q)(h':spA K' t q'):spA (K+K') (s.times t) (q*q'):=by
 obtain⟨⟨e1,e2⟩,a1,a2⟩:=h
 obtain⟨⟨f1,f2⟩,b1,b2⟩:=h'
 have hq:0≤q:=Int.le_trans (agD _) a1
 have key:∀x∈qX ExV.times s t,ab (x.val (K+K'))≤q*q':=fun x hx=>by
  have m:∀x y:ExV, -(K:Int)≤x.e→ -(K':Int)≤y.e→ab (x.val K)≤q→ab (y.val K')≤q'→ab ((x.times y).val (K+K'))≤q*q':=fun x y hx hy h1 h2=>by
   rw[QB hx hy,zT]
   exact Int.le_trans (Int.mul_le_mul_of_nonneg_right h1 (agD _)) (Int.mul_le_mul_of_nonneg_left h2 hq)
  simp only[qX,List.mem_cons,List.not_mem_nil,or_false]at hx
  rcases hx with rfl|rfl|rfl|rfl
  ·exact m _ _ e1 f1 a1 b1
  ·exact m _ _ e1 f2 a1 b2
  ·exact m _ _ e2 f1 a2 b1
  ·exact m _ _ e2 f2 a2 b2
 exact⟨SpV.times_eK ⟨e1,e2⟩ ⟨f1,f2⟩,key _ (Yu (by simp[qX])),key _ (abu (by simp[qX]))⟩
theorem ag1{K:Nat}{s t:SpV}{q q':Int}(h:spA K s q)(h':spA K t q'):spA K (s.plus t) (q+q'):=by
 obtain⟨e,a1,a2⟩:=h
 obtain⟨f,b1,b2⟩:=h'
 refine⟨SpV.plus_eK e f,?_,?_⟩
 ·show ab ((s.lo.plus t.lo).val K)≤_
  rw[jG e.1 f.1]
  have:=YQ (s.lo.val K) (t.lo.val K)
  omega
 ·show ab ((s.hi.plus t.hi).val K)≤_
  rw[jG e.2 f.2]
  have:=YQ (s.hi.val K) (t.hi.val K)
  omega
theorem ag2{K:Nat}{s:SpV}{q q':Int}(h:spA K s q)(hq:q≤q'):spA K s q':=⟨h.1,Int.le_trans h.2.1 hq,Int.le_trans h.2.2 hq⟩
theorem ast{n K K':Nat}{S S':List SpV}{a b:Nat→Nat→Int}{i j:Nat}(h:∀t,t<n→spA K (S.getD (i*n+t) sp0) (a i t))(h':∀t,t<n→spA K' (S'.getD (t*n+j) sp0) (b t j)):∀k,k≤n→spA (K+K') (jy n S S' i j k) (qj (fun t=>a i t*b t j) k)
 |0,_=>by
  rw[Za]
  have e:ex0.val (K+K')=0:=Qx _
  refine⟨⟨?_,?_⟩,?_,?_⟩
  ·show-((K+K':Nat):Int)≤0;omega
  ·show-((K+K':Nat):Int)≤0;omega
  ·show ab (ex0.val (K+K'))≤0;rw[e];decide
  ·show ab (ex0.val (K+K'))≤0;rw[e];decide
 |k+1,hk=>by
  rw[Zb]
  exact ag1 (ast h h' k (by omega)) (asm (h k (by omega)) (h' k (by omega)))
def mgA(n K:Nat)(S:List SpV)(q:Int):Prop:=∀i,i<n*n→spA K (S.getD i sp0) q
theorem as6{n K K':Nat}{S:List SpV}{q q':Int}{f:SpV→SpV}(hl:S.length=n*n)(h:mgA n K S q)(hf:∀s,spA K s q→spA K' (f s) q'):mgA n K' (S.map f) q':=fun i hi=>by
 rw[zB (by omega) sp0]
 exact hf _ (h i hi)
theorem Yy{n i:Nat}(hi:i<n*n):i/n<n∧i % n<n:=by
 have hn:0<n:=by
  rcases Nat.eq_zero_or_pos n with e|e
  ·subst e;simp at hi
  ·exact e
 exact⟨(Nat.div_lt_iff_lt_mul hn).2 hi,Nat.mod_lt i hn⟩
theorem aHq{n B Kb k:Nat}{S:List SpV}{X:List ExV}{m:Int}(hk:k≠0)(hX:X.length=n*n)(eX:eK Kb X)(hs:smallI n (fun i j=>mv Kb X n i j) (p2 Kb))(h:mgA n B S m)(hm:0≤m):
  mgA n B ((qE n S (X.map ptS)).map fun s=>s.divd k (-(B:Int))) (m/2+1):=by
 have hT:∀i,i<n*n→∃q:Int,2*q≤m*p2 Kb∧spA (B+Kb) ((qE n S (X.map ptS)).getD i sp0) q:=fun i hi=>by
  obtain⟨h1,h2⟩:=Yy hi
  refine⟨qj (fun t=>m*ab (mv Kb X n t (i % n))) n,?_,?_⟩
  ·rw[qQ]
   have c1:qj (fun t=>ab (mv Kb X n t (i % n))) n≤nrm (fun i j=>mv Kb X n i j) n:=Y9 (fun i j=>mv Kb X n i j) h2
   have c2:=hs.le
   have c3:=Int.mul_le_mul_of_nonneg_left (show 2*qj (fun t=>ab (mv Kb X n t (i % n))) n≤p2 Kb by omega) hm
   rw[Int.mul_left_comm]at c3
   exact c3
  ·unfold qE
   rw[Xm hi]
   refine ast (a:=fun _ _=>m) (b:=fun t j=>ab (mv Kb X n t j)) (fun t ht=>h _ (qV h1 ht)) (fun t ht=>?_) n (Nat.le_refl n)
   have hx:=qV ht h2
   rw[zB (by rw[hX];exact hx) ex0]
   have e:=JI eX (i:=t*n+i % n) (by rw[hX];exact hx)
   exact⟨⟨e,e⟩,Int.le_refl _,Int.le_refl _⟩
 intro i hi
 obtain⟨q,hq,hsp⟩:=hT i hi
 rw[zB (by show i<(gly _ _ _).length;rw[zG];exact hi) sp0]
 generalize (qE n S (X.map ptS)).getD i sp0=s at*
 obtain⟨es,a1,a2⟩:=hsp
 have hn:(exN k).m≠0:=hk
 have hv:(exN k).val 0=k:=by show sv false k*2^((0:Int)+((0:Nat):Int)).toNat=k;simp[sv]
 have key:∀(x:ExV) (md:Int), -((B+Kb:Nat):Int)≤x.e→ab (x.val (B+Kb))≤q→ab ((x.over (exN k) (-(B:Int)) md).val B)≤m/2+1:=fun x md hx hxq=>by
  have:=aGX (md:=md) (x:=x) (y:=exN k) (low:= -(B:Int)) (Kx:=B+Kb) (Ky:=0) (Kz:=B) hn hx (by show-((0:Nat):Int)≤0;omega) (by omega)
  rw[hv,Nat.zero_add,show(-(B:Int)+(B:Int)).toNat+(B+Kb)=B+Kb by omega,zT,zT,yK (show(0:Int)≤k by omega),yK (Int.le_of_lt (qZ _)),zx]at this
  generalize ab ((x.over (exN k) (-(B:Int)) md).val B)=r at*
  have hpB:=qZ B
  have hpK:=qZ Kb
  have s1:ab (x.val (B+Kb))*p2 B≤q*p2 B:=Int.mul_le_mul_of_nonneg_right hxq (Int.le_of_lt hpB)
  have s2:2*(q*p2 B)≤m*p2 Kb*p2 B:=by
   have:=Int.mul_le_mul_of_nonneg_right hq (Int.le_of_lt hpB)
   rw[Int.mul_assoc 2]at this;exact this
  have s3:(2*r*k)*(p2 B*p2 Kb)≤(m+2*k)*(p2 B*p2 Kb):=by
   have e1:(2*r*k)*(p2 B*p2 Kb)=2*(r*k*(p2 B*p2 Kb)):=by grind
   have e2:(m+2*k)*(p2 B*p2 Kb)=m*p2 Kb*p2 B+2*(k*(p2 B*p2 Kb)):=by grind
   omega
  have s4:=Int.le_of_mul_le_mul_right s3 (Int.mul_pos hpB hpK)
  have s5:2*r≤m+2:=by
   rcases Int.lt_or_le (m+2) (2*r)with g|g
   ·have g1:(m+3)*(k:Int)≤2*r*k:=Int.mul_le_mul_of_nonneg_right (by omega) (by omega)
    have g2:m*1≤m*(k:Int):=Int.mul_le_mul_of_nonneg_left (by omega) hm
    rw[Int.add_mul]at g1
    omega
   ·exact g
  omega
 have e3:∀md:Int,∀x∈qX (fun x y=>x.over y (-(B:Int)) md) s ⟨exN k,exN k⟩, -(B:Int)≤x.e∧ab (x.val B)≤m/2+1:=fun md x hx=>by
  simp only[qX,List.mem_cons,List.not_mem_nil,or_false]at hx
  rcases hx with rfl|rfl|rfl|rfl
  ·exact⟨Int.le_refl _,key _ _ es.1 a1⟩
  ·exact⟨Int.le_refl _,key _ _ es.1 a1⟩
  ·exact⟨Int.le_refl _,key _ _ es.2 a2⟩
  ·exact⟨Int.le_refl _,key _ _ es.2 a2⟩
 have l:=e3 3 _ (Yu (by simp[qX]))
 have u:=e3 2 _ (abu (by simp[qX]))
 exact⟨⟨l.1,u.1⟩,l.2,u.2⟩
def mK(B:Nat):Nat→Int
 |0=>p2 B
 |k+1=>mK B k/2+1
def sK(B:Nat):Nat→Int
 |0=>p2 B
 |k+1=>sK B k+mK B (k+1)
theorem aRc(B:Nat):∀k,0≤mK B k
 |0=>Int.le_of_lt (qZ B)
 |k+1=>by have:=aRc B k;show 0≤mK B k/2+1;omega
theorem aU4(B:Nat):∀k:Nat,sK B k+mK B k≤2*p2 B+2*k
 |0=>by show p2 B+p2 B≤2*p2 B+2*((0:Nat):Int);omega
 |k+1=>by
  have:=aU4 B k
  show sK B k+(mK B k/2+1)+(mK B k/2+1)≤_
  omega
theorem aKJ{n B:Nat}:mgA n B ((gId n).map ptS) (p2 B):=fun i hi=>by
 rw[zB (by rw[Yw];exact hi) ex0]
 have h:∀x∈gId n, -(B:Int)≤x.e∧ab (x.val B)≤p2 B:=fun x hx=>by
  obtain⟨t,ht,rfl⟩:=List.mem_map.1 hx
  show-(B:Int)≤(idF _ _).e∧ab ((idF _ _).val B)≤p2 B
  unfold idF
  split
  ·refine⟨by show-(B:Int)≤0;omega,?_⟩
   show ab (sv false 1*2^((0:Int)+(B:Int)).toNat)≤_
   rw[show((0:Int)+(B:Int)).toNat=B by omega]
   have:sv false 1*2^B=p2 B:=by simp[sv,p2]
   rw[this,yK (Int.le_of_lt (qZ B))];exact Int.le_refl _
  ·refine⟨by show-(B:Int)≤0;omega,?_⟩
   rw[Qx]
   exact Int.le_of_lt (qZ B)
 have:=h _ (atZ (i:=i) (by rw[Yw];exact hi))
 exact⟨⟨this.1,this.1⟩,this.2,this.2⟩
theorem aKK{n B Kb:Nat}{X:List ExV}(hX:X.length=n*n)(eX:eK Kb X)(hs:smallI n (fun i j=>mv Kb X n i j) (p2 Kb)):∀k:Nat,mgA n B (gSt n (X.map ptS) (-(B:Int)) k).1 (sK B k)∧mgA n B (gSt n (X.map ptS) (-(B:Int)) k).2 (mK B k)
 |0=>⟨aKJ,aKJ⟩
 |k+1=>by
  obtain⟨h1,h2⟩:=aKK (B:=B) hX eX hs k
  have h3:=aHq (k:=k+1) (by omega) hX eX hs h2 (aRc B k)
  refine⟨fun i hi=>?_,h3⟩
  show spA B ((yT _ _).getD i sp0) (sK B k+mK B (k+1))
  rw[JG (by rw[(zX k).1];exact hi)]
  exact ag1 (h1 i hi) (h3 i hi)
theorem aWl{n B Kb:Nat}{X:List ExV}(hX:X.length=n*n)(eX:eK Kb X)(hs:smallI n (fun i j=>mv Kb X n i j) (p2 Kb))(hB:12≤B∧B≤148):mgA n B (gFt n (X.map ptS) B) (7*p2 B):=by
 refine as6 (zX _).1 (aKK (B:=B) hX eX hs (tmF B)).1 fun s hsp=>?_
 obtain⟨es,a1,a2⟩:=hsp
 have ey: -(B:Int)≤(ex1.shift (-(B:Int))).e:=by show-(B:Int)≤0+ -(B:Int);omega
 have hv:=abb (Nat.le_refl B)
 rw[Nat.sub_self,show p2 0=1 by decide]at hv
 have h1:=aU4 B (tmF B)
 have h2:=aRc B (tmF B)
 have h3:=avQ hB.2
 have h4:4096≤p2 B:=by
  have e:p2 B=p2 12*p2 (B-12):=QL (by omega)
  have h5:=qZ (B-12)
  have h6:p2 12=4096:=by decide
  rw[e,h6];omega
 refine⟨⟨Jk (y:=ExV.neg (ex1.shift (-(B:Int)))) es.1 ey,Jk es.2 ey⟩,?_,?_⟩
 ·show ab ((s.lo.plus (ex1.shift (-(B:Int))).neg).val B)≤_
  rw[jG (y:=ExV.neg (ex1.shift (-(B:Int)))) es.1 ey,afI,hv]
  have:=YQ (s.lo.val B) (-1)
  have e1:ab (-1)=1:=by decide
  omega
 ·show ab ((s.hi.plus (ex1.shift (-(B:Int)))).val B)≤_
  rw[jG es.2 ey,hv]
  have:=YQ (s.hi.val B) 1
  have e1:ab 1=1:=by decide
  omega
def lK:Nat→Nat
 |0=>3
 |k+1=>2*lK k+2
theorem aVX{K:Nat}{s:SpV}{q low:Int}(hl: -(K:Int)≤low)(h:spA K s q):spA K (s.out low) (q+p2 (low+(K:Int)).toNat):=by
 obtain⟨es,a1,a2⟩:=h
 refine⟨⟨ag5 es.1 hl,ag5 es.2 hl⟩,?_,?_⟩
 ·have:=asE (md:=3) es.1 hl
  show ab ((s.lo.rnd low 3).val K)≤_
  omega
 ·have:=asE (md:=2) es.2 hl
  show ab ((s.hi.rnd low 2).val K)≤_
  omega
theorem afC{a b:Nat}(h:a≤b):p2 a≤p2 b:=by
 have e:p2 b=p2 a*p2 (b-a):=QL (by omega)
 have h1:=qZ a
 have h2:=qZ (b-a)
 have:=Int.mul_le_mul_of_nonneg_left (show(1:Int)≤p2 (b-a) by omega) (Int.le_of_lt h1)
 omega
theorem aKL{n B:Nat}{F:List SpV}(h4:n≤4)(hF:F.length=n*n)(h:mgA n B F (7*p2 B)):∀k:Nat,mgA n (B*2^k) (gSq n (-(B:Int)) F k) ((p2 (lK k)-1)*p2 (B*2^k))
 |0=>by rw[show B*2^0=B by simp,show p2 (lK 0)-1=7 by decide];exact h
 |k+1=>by
  have ih:=aKL h4 hF h k
  have eK:B*2^(k+1)=B*2^k+B*2^k:=by rw[Nat.pow_succ,←Nat.mul_assoc];omega
  have hBk:B≤B*2^k:=Nat.le_mul_of_pos_right B (Nat.pow_pos (by decide))
  rw[eK]
  generalize B*2^k=K at*
  have hT:mgA n (K+K) (qE n (gSq n (-(B:Int)) F k) (gSq n (-(B:Int)) F k)) (4*(((p2 (lK k)-1)*p2 K)*((p2 (lK k)-1)*p2 K))):=fun i hi=>by
   obtain⟨h1,h2⟩:=Yy hi
   unfold qE
   rw[Xm hi]
   have:=ast (n:=n) (a:=fun _ _=>(p2 (lK k)-1)*p2 K) (b:=fun _ _=>(p2 (lK k)-1)*p2 K) (i:=i/n) (j:=i % n) (fun t ht=>ih _ (qV h1 ht)) (fun t ht=>ih _ (qV ht h2)) n (Nat.le_refl n)
   rw[Qn]at this
   refine ag2 this (Int.mul_le_mul_of_nonneg_right (by omega) ?_)
   have hp1:=qZ (lK k)
   have hp2:=qZ K
   exact Int.mul_nonneg (Int.mul_nonneg (by omega) (by omega)) (Int.mul_nonneg (by omega) (by omega))
  refine as6 zG hT fun s hsp=>ag2 (aVX (low:= -(B:Int)) (by omega) hsp) ?_
  have g1:p2 (-(B:Int)+((K+K:Nat):Int)).toNat≤p2 (K+K):=afC (by omega)
  have g2:p2 (lK (k+1))=4*(p2 (lK k)*p2 (lK k)):=by
   show p2 (2*lK k+2)=_
   rw[show 2*lK k+2=lK k+lK k+2 by omega,zx,zx,show p2 2=4 by decide];omega
  have g3:8≤p2 (lK k):=by
   have:3≤lK k:=by
    cases k with
    |zero=>decide
    |succ k=>show 3≤2*lK k+2;have:1≤lK k:=by {cases k with|zero=>decide|succ k=>show 1≤2*lK k+2;omega};omega
   have:=afC this
   have e:p2 3=8:=by decide
   omega
  have e1:4*(((p2 (lK k)-1)*p2 K)*((p2 (lK k)-1)*p2 K))=(4*(p2 (lK k)*p2 (lK k))-8*p2 (lK k)+4)*p2 (K+K):=by rw[zx];grind
  rw[e1,g2]
  generalize p2 (lK k)*p2 (lK k)=A at*
  generalize p2 (lK k)=a at*
  have hP:=qZ (K+K)
  generalize p2 (K+K)=P at*
  have e2:(4*A-1)*P=(4*A-8*a+4)*P+P+(8*a-6)*P:=by grind
  have e3:0≤(8*a-6)*P:=Int.mul_nonneg (by omega) (by omega)
  omega
theorem biK{k:Nat}(h:k≤8):lK k≤1278:=by
 rcases(show k=0∨k=1∨k=2∨k=3∨k=4∨k=5∨k=6∨k=7∨k=8 by omega)with rfl|rfl|rfl|rfl|rfl|rfl|rfl|rfl|rfl<;>decide
theorem aIm(e:Int):jB 0 e=true:=by
 unfold jB jS oE
 rw[Zf,qt];simp
theorem aK1{K:Nat}{x:ExV}(hK: -(K:Int)≤x.e)(hx:ab (x.val K)≤p2 1278*p2 K)(he:x.m=0∨ -150≤x.e):x.fit=true:=by
 by_cases h0:x.m=0
 ·show jB x.m x.e=true
  rw[h0];exact aIm _
 have he:=he.resolve_left h0
 have h1:ab (x.val K)=(x.m:Int)*p2 (x.e+(K:Int)).toNat:=by
  show ab (sv x.s x.m*2^(x.e+(K:Int)).toNat)=_
  rw[zT,show ab (sv x.s x.m)=x.m by unfold ab;rw[aa7],yK (Int.le_of_lt (Int.pow_pos (by omega)))];rfl
 have h2:(bl x.m:Int)+x.e≤1279:=by
  rcases Int.lt_or_le 1279 ((bl x.m:Int)+x.e)with g|g
  ·exfalso
   have hb:2^(bl x.m-1)≤x.m:=by
    rcases Nat.lt_or_ge x.m (2^(bl x.m-1))with c|c
    ·have:=zj.2 c
     have:bl x.m≠0:=fun e=>by
      have:=zj.1 (show bl x.m≤0 by omega)
      omega
     omega
    ·exact c
   have hp:=qZ (x.e+(K:Int)).toNat
   have a1:p2 (bl x.m-1)*p2 (x.e+(K:Int)).toNat≤(x.m:Int)*p2 (x.e+(K:Int)).toNat:=Int.mul_le_mul_of_nonneg_right (by unfold p2;exact_mod_cast hb) (Int.le_of_lt hp)
   rw[←zx]at a1
   have hb1:bl x.m≠0:=fun e=>by
    have:=zj.1 (show bl x.m≤0 by omega)
    omega
   have a2:p2 (1278+K)*2≤p2 (bl x.m-1+(x.e+(K:Int)).toNat):=by
    have:=afC (show 1278+K+1≤bl x.m-1+(x.e+(K:Int)).toNat by omega)
    rw[zx (1278+K) 1]at this
    exact this
   have a3:=qZ (1278+K)
   rw[←zx,h1]at hx
   omega
  ·exact g
 show jB x.m x.e=true
 have q4:=jC (aG2 x.m)
 have l1:=qH (m:=oM x.m) (B:=1500) (by omega)
 have q5: -3000≤oE x.m x.e∧oE x.m x.e≤3000:=by
  unfold oE
  rw[if_neg h0]
  have:=yr h0
  omega
 unfold jB jS
 rw[decide_eq_true (show(lim (oM x.m)).length≤100 by omega),decide_eq_true q5.1,decide_eq_true q5.2];rfl
theorem aU7{x:ExV}{low md:Int}(hl: -150≤low):(x.rnd low md).m=0∨ -150≤(x.rnd low md).e:=by
 show roM x.s x.m x.e low md=0∨_≤roE x.m x.e low
 unfold roM roE
 by_cases c:low≤x.e∨x.m=0
 ·rw[if_pos c,if_pos c]
  rcases c with c|c
  ·right;omega
  ·left;exact c
 ·rw[if_neg c,if_neg c];right;omega
theorem atB{n s B Kb:Nat}{X:List ExV}{L:List ExV}{low:Int}(h4:n≤4)(hs8:s≤8)(hB:12≤B∧B≤148)(hw: -(B:Int)≤low-4)(hlo: -120≤low∧low≤0)(hX:X.length=n*n)(eX:eK Kb X)(hs:smallI n (fun i j=>mv Kb X n i j) (p2 Kb))(hg:gB n L s=X.map ptS):(yh n L s B low).all SpV.fit=true:=by
 have h1:=aKL h4 Xn (aWl hX eX hs hB) s
 have hBk:B≤B*2^s:=Nat.le_mul_of_pos_right B (Nat.pow_pos (by decide))
 refine List.all_eq_true.2 fun x hx=>?_
 obtain⟨i,hi,rfl⟩:=List.getElem_of_mem hx
 have hi':i<n*n:=by rw[yQ]at hi;exact hi
 have e:(yh n L s B low).getD i sp0=(yh n L s B low)[i]:=by rw[List.getD_eq_getElem?_getD,List.getElem?_eq_getElem hi];rfl
 rw[←e]
 unfold yh
 rw[hg,zB (by rw[Qw Xn];exact hi') sp0]
 have h2:=h1 i hi'
 generalize (gSq n (-(B:Int)) (gFt n (X.map ptS) B) s).getD i sp0=y at*
 have h3:=aVX (low:=low-4) (by omega) h2
 have hp:=qZ (B*2^s)
 have g1:p2 (low-4+((B*2^s:Nat):Int)).toNat≤p2 (B*2^s):=afC (by omega)
 have g2:=afC (biK hs8)
 have g3:p2 (lK s)*p2 (B*2^s)≤p2 1278*p2 (B*2^s):=Int.mul_le_mul_of_nonneg_right g2 (Int.le_of_lt hp)
 rw[Int.sub_mul,Int.one_mul]at h3
 obtain⟨⟨e1,e2⟩,a1,a2⟩:=h3
 have f1:=aK1 e1 (by omega) (aU7 (by omega))
 have f2:=aK1 e2 (by omega) (aU7 (by omega))
 show((y.out (low-4)).lo.fit&&(y.out (low-4)).hi.fit)=true
 rw[f1,f2];rfl
end Go.Ab
namespace Go.Ab
open Go Go.Proofs
def avc(n:Nat)(L:List ExV)(low:Int):Bool:=(decide (-120≤low)&&decide (low≤0))&&decide ((q6 n L n).cmp (exN 64)≤0)
theorem ZB(n:Nat)(L:List ExV)(low:Int)(h:matV n L):Con Tryz.prog 69 true [.ag [.v (.int .i64 (n)),.sl (L).length (qn ExV.cs (L))],.v (.int .i64 low)] [] (isA (.v (.bool (avc n L low)))):=by
 have cw:=zg low (-120) 0
 have cm:=yo n L h
 have cg:=zY n L (by have:=h.l16;omega)
 have cn:=Qa n L h.n4 h.len (jg h.bd (by omega) (by omega))
 have bN:=jY h.len h.bd (by omega) n (Nat.le_refl n)
 have h4:=h.n4
 have cc:=jZ (q6 n L n) (exN 64) (bN.mono (by omega) (by omega)) ((aK5 (by decide)).mono (by omega) (by omega))
 unfold avc
 generalize q6 n L n=y at*
 cases hw:(decide (-120≤low)&&decide (low≤0))
 ·rw[hw]at cw
  refine Con.of_w (rs:=[.tmp 4]) Tryz.func69 rfl Tryz.ntmps69 rfl ?_
  simp(disch:=omega)only[go_sem]
  refine ql (cm) ?_
  simp(disch:=omega)only[go_sem]
  refine ql (cw) ?_
  simp(disch:=omega)only[go_sem]
  exact qB
 ·rw[hw]at cw
  rw[Bool.true_and]
  generalize y.cmp (exN 64)=C at*
  have e64:exN 64=⟨false,64,0⟩:=rfl
  rw[e64]at cc
  refine Con.of_w (rs:=[.tmp 4]) Tryz.func69 rfl Tryz.ntmps69 rfl ?_
  simp(disch:=omega)only[go_sem]
  refine ql (cm) ?_
  simp(disch:=omega)only[go_sem]
  refine ql (cw) ?_
  simp(disch:=omega)only[go_sem]
  refine qa (cg) ?_
  simp(disch:=omega)only[go_sem]
  refine qa (cn) ?_
  simp(disch:=omega)only[go_sem]
  refine qa (zD 64 (by omega)) ?_
  simp(disch:=omega)only[go_sem]
  refine ql (cc) ?_
  simp(disch:=omega)only[go_sem]
  exact qB
theorem Ya(k:Int)(M:List DyV)(low:Int)(h1:M.length≤16)(h2:∀d∈M,d.xs.length≤200)(h:atb k M=false):Con Tryz.prog 69 true [.ag [.v (.int .i64 k),.sl M.length (qn DyV.cs M)],.v (.int .i64 low)] [] (isA (.v (.bool false))):=by
 have c:=am5 k M h1 h2
 rw[h]at c
 refine Con.of_w (rs:=[.tmp 4]) Tryz.func69 rfl Tryz.ntmps69 rfl ?_
 simp(disch:=omega)only[go_sem]
 refine ql (c) ?_
 simp(disch:=omega)only[go_sem]
 exact qB
end Go.Ab
namespace Go.Ab
open Go Go.Proofs
/-! ### The exponential of a matrix that may be asked for-/
def exS(n:Nat)(L:List ExV):Nat:=hvN (q6 n L n)
def acm(n:Nat)(L:List ExV)(low:Int):Nat:=(12+2*(exS n L:Int)-low).toNat
def exH(n:Nat)(L:List ExV)(low:Int):List SpV:=yh n L (exS n L) (acm n L low) low
theorem asS{n:Nat}{L:List ExV}(h:matV n L):(q6 n L n).s=false:=by
 have b:=(jY h.len h.bd (by omega) n (Nat.le_refl n)).1
 obtain⟨v,e⟩:=yO (h.eK (Nat.le_refl _)) h.len n (Nat.le_refl n)
 have hv:0≤(q6 n L n).val 3000:=by rw[v];exact jw _ _
 generalize q6 n L n=y at*
 cases hs:y.s
 ·rfl
 ·exfalso
  have hm:y.m≠0:=fun h0=>by rw[b h0]at hs;cases hs
  have:y.val 3000= -((y.m:Int)*p2 (y.e+((3000:Nat):Int)).toNat):=by
   show sv y.s y.m*2^_=_
   rw[hs];simp[sv,p2,Int.neg_mul]
  have hp:=Int.mul_pos (show(0:Int)<y.m by omega) (qZ (y.e+((3000:Nat):Int)).toNat)
  omega
theorem acs{K:Nat}{y:ExV}(h0:y.m≠0)(hK: -(K:Int)≤y.e):p2 (y.top-1+(K:Int)).toNat≤ab (y.val K)∧ab (y.val K)<p2 (y.top+(K:Int)).toNat:=by
 have h1:y.top=(bl y.m:Int)+y.e:=by unfold ExV.top;rw[if_neg h0]
 have h2:y.m<2^bl y.m:=zj.1 (Nat.le_refl _)
 have hb1:bl y.m≠0:=fun e=>by
  have:=zj.1 (show bl y.m≤0 by omega)
  omega
 have h3:2^(bl y.m-1)≤y.m:=by
  rcases Nat.lt_or_ge y.m (2^(bl y.m-1))with c|c
  ·have:=zj.2 c
   omega
  ·exact c
 have hv:ab (y.val K)=(y.m:Int)*p2 (y.e+(K:Int)).toNat:=by
  show ab (sv y.s y.m*2^(y.e+(K:Int)).toNat)=_
  rw[zT,show ab (sv y.s y.m)=y.m by unfold ab;rw[aa7],yK (Int.le_of_lt (Int.pow_pos (by omega)))];rfl
 have hp:=qZ (y.e+(K:Int)).toNat
 rw[hv]
 constructor
 ·rw[show(y.top-1+(K:Int)).toNat=(bl y.m-1)+(y.e+(K:Int)).toNat by omega,zx]
  exact Int.mul_le_mul_of_nonneg_right (by unfold p2;exact_mod_cast h3) (Int.le_of_lt hp)
 ·rw[show(y.top+(K:Int)).toNat=bl y.m+(y.e+(K:Int)).toNat by omega,zx]
  exact Int.mul_lt_mul_of_pos_right (by unfold p2;exact_mod_cast h2) hp
theorem biE{a b:Nat}(h:p2 a<p2 b):a<b:=by
 rcases Nat.lt_or_ge a b with g|g
 ·exact g
 ·have:=afC g;omega
theorem avE{K:Nat}{y:ExV}(h0:y.m=0):y.val K=0:=by
 show sv y.s y.m*_=0
 rw[h0];simp[sv]
theorem aIu{n:Nat}{L:List ExV}(h:matV n L){i j:Nat}(hi:i<n)(hj:j<n):ab (mv 3000 L n i j)≤(q6 n L n).val 3000:=by
 obtain⟨v,e⟩:=yO (h.eK (Nat.le_refl _)) h.len n (Nat.le_refl n)
 rw[v]
 exact aK8 (mv 3000 L n) hi hj
structure askF(n:Nat)(L:List ExV)(low:Int):Prop where
 lo: -120≤low∧low≤0
 s8:exS n L≤8
 B:12≤acm n L low∧acm n L low≤148
 w:low-2*(exS n L:Int)-12= -(acm n L low:Int)
 bd:sbd (-3100) 0 (gB n L (exS n L))
 small:smallI n (fun i j=>mv 3000 L n i j) (p2 (3000+exS n L))
theorem yp{n:Nat}{L:List ExV}{low:Int}(h:matV n L)(ha:avc n L low=true):askF n L low:=by
 unfold avc at ha
 simp only[Bool.and_eq_true,decide_eq_true_eq]at ha
 obtain⟨hlo,hc⟩:=ha
 have hb:=jY h.len h.bd (by omega) n (Nat.le_refl n)
 obtain⟨v,e⟩:=yO (h.eK (Nat.le_refl _)) h.len n (Nat.le_refl n)
 have hs:=asS h
 rw[Qz (K:=3000) e (by show-((3000:Nat):Int)≤0;omega)]at hc
 have hle:=(Zt _ _).1.1 hc
 have e64:(exN 64).val 3000=p2 3006:=by
  have a:(exN 64).val 3000=sv false 64*p2 ((0:Int)+((3000:Nat):Int)).toNat:=rfl
  rw[a,show((0:Int)+((3000:Nat):Int)).toNat=3000 by omega,QL (show 3006=6+3000 by omega),show sv false 64=p2 6 by decide]
 rw[e64]at hle
 have htop:(q6 n L n).m≠0→(q6 n L n).top≤7:=fun h0=>by
  have t:=(acs h0 e).1
  have hv:ab ((q6 n L n).val 3000)=(q6 n L n).val 3000:=yK (by rw[v];exact jw _ _)
  rw[hv]at t
  rcases Int.lt_or_le 7 (q6 n L n).top with g|g
  ·have h1:p2 3006<p2 (3006+1):=by rw[zx];have:=qZ 3006;show _<_*2;omega
   have h2:=afC (show 3006+1≤((q6 n L n).top-1+((3000:Nat):Int)).toNat by omega)
   omega
  ·exact g
 have s8:exS n L≤8:=by
  unfold exS hvN
  split
  ·omega
  ·rename_i h0
   have:=htop h0
   omega
 have hs1:(q6 n L n).m≠0→(q6 n L n).top+1≤(exS n L:Int):=fun h0=>by
  unfold exS hvN
  rw[if_neg h0];omega
 have hB:(acm n L low:Int)=12+2*(exS n L:Int)-low:=by unfold acm;omega
 refine⟨hlo,s8,by omega,by omega,fun x hx=>?_,aGw h.len (h.eK (Nat.le_refl _)) hs hs1⟩
 obtain⟨y,hy,rfl⟩:=List.mem_map.1 hx
 obtain⟨t,ht,rfl⟩:=List.mem_map.1 hy
 obtain⟨h1,h2⟩:=Yy (List.mem_range.1 ht)
 have hix:=qV h1 h2
 have hok:=h.ok _ (atZ (l:=L) (i:=t/n*n+t % n) (by rw[h.len];exact hix))
 have hen:=aIu h h1 h2
 have key:((L.getD (t/n*n+t % n) ex0).times (ex1.shift (-(exS n L:Int)))).bd (-3100) 0:=by
  unfold mv at hen
  generalize L.getD (t/n*n+t % n) ex0=x at*
  obtain⟨r1,r2,r3,r4,r5⟩:=jv hok
  have em:(x.times (ex1.shift (-(exS n L:Int)))).m=x.m:=Nat.mul_one _
  have ee:(x.times (ex1.shift (-(exS n L:Int)))).e=x.e-(exS n L:Int):=by show x.e+(0+ -(exS n L:Int))=_;omega
  refine⟨fun h0=>?_,by rw[ee];omega,?_⟩
  ·rw[em]at h0
   show((x.s != false)&&decide (x.m*1≠0))=false
   rw[decide_eq_false (show ¬x.m*1≠0 by omega),Bool.and_false]
  ·rw[em,ee]
   by_cases h0:x.m=0
   ·have:=(r4 h0).2
    rw[h0,y0];omega
   ·have t1:=(acs (K:=3000) h0 (by omega)).1
    have hn0:(q6 n L n).m≠0:=fun hz=>by
     rw[avE hz]at hen
     have:=qZ (x.top-1+((3000:Nat):Int)).toNat
     omega
    have t2:=(acs hn0 e).2
    have hv:ab ((q6 n L n).val 3000)=(q6 n L n).val 3000:=yK (by rw[v];exact jw _ _)
    rw[hv]at t2
    have t3:=biE (show p2 (x.top-1+((3000:Nat):Int)).toNat<p2 ((q6 n L n).top+((3000:Nat):Int)).toNat by omega)
    have t4:x.top=(bl x.m:Int)+x.e:=by unfold ExV.top;rw[if_neg h0]
    have:=hs1 hn0
    omega
 exact⟨key,key⟩
theorem amY(n:Nat)(L:List ExV)(low:Int)(h:matV n L)(ha:avc n L low=true):Con Tryz.prog 71 false [.ag [.v (.int .i64 (n)),.sl (L).length (qn ExV.cs (L))],.v (.int .i64 low)] [] (isA (.ag [.v (.int .i64 (n)),.sl (exH n L low).length (qn SpV.cs (exH n L low))])):=by
 have f:=yp h ha
 by_cases h0:(q6 n L n).m=0
 ·exact auG n L (exS n L) (acm n L low) low h.n4 h.len h.bd f.s8 f.w f.lo f.bd _ rfl h0 (by unfold exS hvN;rw[if_pos h0])
 ·refine auH n L (exS n L) (acm n L low) low h.n4 h.len h.bd f.s8 f.w f.lo f.bd _ rfl h0 ?_
  unfold exS hvN
  rw[if_neg h0]
  split<;>omega
theorem aWM{n s:Nat}{L:List ExV}:gB n L s=(qM n L (ex1.shift (-(s:Int)))).map ptS:=rfl
theorem bim{n:Nat}{L:List ExV}(h:matV n L)(s:Nat):eK (3000+s) (qM n L (ex1.shift (-(s:Int)))):=fun x hx=>by
 obtain⟨t,ht,rfl⟩:=List.mem_map.1 hx
 obtain⟨h1,h2⟩:=Yy (List.mem_range.1 ht)
 have a:=JI (h.eK (Nat.le_refl _)) (i:=t/n*n+t % n) (by rw[h.len];exact qV h1 h2)
 show _≤(L.getD (t/n*n+t % n) ex0).e+(0+ -(s:Int))
 omega
theorem bil{n:Nat}{L:List ExV}(h:matV n L)(s:Nat){i j:Nat}(hi:i<n)(hj:j<n):mv (3000+s) (qM n L (ex1.shift (-(s:Int)))) n i j=mv 3000 L n i j:=by
 have a:=JI (h.eK (Nat.le_refl _)) (i:=i*n+j) (by rw[h.len];exact qV hi hj)
 have ey: -((s:Nat):Int)≤(ex1.shift (-(s:Int))).e:=by show-(s:Int)≤0+ -(s:Int);omega
 show(List.getD (gl n _ (n*n)) (i*n+j) ex0).val (3000+s)=_
 rw[aHI hi hj,QB a ey,abb (Nat.le_refl s),Nat.sub_self]
 show _*p2 0=_
 rw[show p2 0=1 by decide,Int.mul_one];rfl
theorem at2{n:Nat}{L:List ExV}{low:Int}(h:matV n L)(f:askF n L low):(exH n L low).all SpV.fit=true:=by
 have hB:=f.B
 have hw:=f.w
 refine atB (Kb:=3000+exS n L) (X:=qM n L (ex1.shift (-(exS n L:Int)))) h.n4 f.s8 hB (by omega) f.lo zL (bim h _) ⟨f.small.pos,?_⟩ aWM
 rw[show nrm (fun i j=>mv (3000+exS n L) (qM n L (ex1.shift (-(exS n L:Int)))) n i j) n=nrm (fun i j=>mv 3000 L n i j) n from asR fun i j hi hj=>bil h _ hi hj]
 exact f.small.le
def exT(n:Nat)(L:List ExV)(low:Int):List SpV:=(exH n L low).map SpV.can
theorem ZD(n:Nat)(L:List ExV)(low:Int)(h:matV n L)(ha:avc n L low=true):Con Tryz.prog 13 false [.ag [.v (.int .i64 (n)),.sl (L).length (qn ExV.cs (L))],.v (.int .i64 low)] [] (isA (.tu [.ag [.v (.int .i64 (n)),.sl (exT n L low).length (qn SpV.cs (exT n L low))],.v (.bool true)])):=by
 refine Con.frzA ?_
 have f:=yp h ha
 have ca:=ZB n L low h
 rw[ha]at ca
 have cg:=zY n L (by have:=h.l16;omega)
 have ch:=amY n L low h ha
 have hq:=jX h.n4
 have hl:(exH n L low).length=n*n:=yQ
 have hB:=f.B
 have hw:=f.w
 have hlo:=f.lo
 have hb:sbd (-37888) 73473 (exH n L low):=aHD h.n4 f.s8 (by omega) (by omega) (by omega) f.bd
 have ci:=JS n (exH n L low) (by omega) (qD hb (by omega) (by omega))
 rw[at2 h f,if_pos rfl]at ci
 change Con _ _ _ _ _ (isA (.tu [.ag [.v (.int .i64 n),.sl (exH n L low).length (qn SpV.cs (exT n L low))],.v (.bool true)]))at ci
 have hl2:(exT n L low).length=(exH n L low).length:=List.length_map _
 rw[hl2]
 generalize exT n L low=H2 at*
 generalize exH n L low=H at*
 refine Con.of_w (rs:=[.cell 4 30,.tmp 5]) Tryz.func13 rfl Tryz.ntmps13 rfl ?_
 simp(disch:=omega)only[go_sem]
 refine ql (ca) ?_
 simp(disch:=omega)only[go_sem]
 refine qa (cg) ?_
 simp(disch:=omega)only[go_sem]
 refine qa (ch) ?_
 simp(disch:=omega)only[go_sem]
 refine qa (ci) ?_
 simp(disch:=omega)only[go_sem]
 exact qp
theorem QY(r:AV)(low:Int)(ca:Con Tryz.prog 69 true [r,.v (.int .i64 low)] [] (isA (.v (.bool false))))(hr:∃(k:Int) (m:Nat) (cs:List AV),r=.ag [.v (.int .i64 k),.sl m cs]):Con Tryz.prog 13 false [r,.v (.int .i64 low)] []
  (isA (.tu [.ag [.v (.int .i64 0),.sl 0 []],.v (.bool false)])):=by
 refine Con.frzA ?_
 obtain⟨k,m,cs,rfl⟩:=hr
 refine Con.of_w (rs:=[.cell 4 30,.tmp 5]) Tryz.func13 rfl Tryz.ntmps13 rfl ?_
 simp(disch:=omega)only[go_sem]
 refine ql (ca) ?_
 simp(disch:=omega)only[go_sem]
 exact qp
theorem aPJ{n:Nat}{S:List SpV}{M:Nat→Nat→Int}{D:Int}(hn:1≤n)(hl:S.length=n*n)(h:rtM n S M D):rtM n (S.map SpV.can) M D:=
 Y1 hl h 0 (fun K s N N' hK es hi ⟨i,j,_,_,e1,e2⟩=>by
  subst e1 e2
  exact⟨(atx es).2 hi,SpV.can_eK es⟩) hn
theorem QU{n:Nat}{L:List ExV}{low:Int}(h:matV n L)(f:askF n L low):imatV n (exT n L low)∧∀T,tmF (acm n L low)≤T→rtM n (exT n L low) (sqI n (exS n L) (eE n (fun i j=>mv 3000 L n i j) (p2 (3000+exS n L)) T)) (sqD (exS n L) (eD (p2 (3000+exS n L)) T)):=by
 have hB:=f.B
 have hl:(exH n L low).length=n*n:=yQ
 have key:∀T,tmF (acm n L low)≤T→rtM n (exH n L low) (sqI n (exS n L) (eE n (fun i j=>mv 3000 L n i j) (p2 (3000+exS n L)) T)) (sqD (exS n L) (eD (p2 (3000+exS n L)) T)):=fun T hT=>
  atA h.n1 (by omega) f.lo.2 f.small (biR h.len (h.eK (Nat.le_refl _))) hT
 refine⟨?_,fun T hT=>aPJ h.n1 hl (key T hT)⟩
 have hD:=jk (jD f.small.pos (tmF (acm n L low))) (exS n L)
 obtain⟨K,k1,k2⟩:=key _ (Nat.le_refl _)
 exact(ba5 (K:=max K 3000) (Nat.le_max_right _ _) h.n1 h.n4 hl (fun s hs=>by
  obtain⟨i,hi,rfl⟩:=List.getElem_of_mem hs
  have e:(exH n L low).getD i sp0=(exH n L low)[i]:=by rw[List.getD_eq_getElem?_getD,List.getElem?_eq_getElem hi];rfl
  obtain⟨h1,h2⟩:=Yy (show i<n*n by omega)
  have q1:=k1 i (by omega)
  have q2:=k2 _ _ h1 h2
  rw[ahp]at q2
  rw[←e]
  exact⟨q1.up (Nat.le_max_left _ _),aKU hD (abA q1 (Nat.le_max_left _ _) q2)⟩) (at2 h f)).2.2
end Go.Ab
namespace Go.Ab
open Go Go.Proofs
section
variable (l:List UInt8)(hl:l.length≤9223372036854775807)(i h:Int)(hi:0≤i∧i≤l.length)
include hl hi
end
end Go.Ab
namespace Go.Ab
open Go Go.Proofs
section
variable (l:List UInt8)(hl:l.length≤9223372036854775807)(i h:Int)(hi:0≤i∧i≤l.length)
include hl hi
theorem amT:Con Tryz.prog 68 false [.pt 10000000 0] [.own 0 [.sl l.length (qk l),.v (.int .i64 i),.v (.int .i64 h)]] (Yz l fun r=>∃k:Int,(-121≤k∧k≤1)∧r=.v (.int .i64 k)):=by
 refine Con.of_aw Tryz.func68 rfl Tryz.ntmps68 (by simp) (by simp) (by simp) (W.sound ?_)
 show @W Tryz.prog 11 ⟨_⟩ ⟨fun x σ=>@za _ _ _ ⟨_⟩ _ ⟨_⟩ x σ⟩ _ _
 simp(disch:=omega)only[go_sem]
 refine qx (qU l hl i h hi 15 (by omega)) ?_
 rintro r i1 h1 hi1 ⟨b,rfl⟩
 simp(disch:=omega)only[go_sem]
 cases b
 ·simp(disch:=omega)only[go_sem]
  refine qx (qN l hl i1 h1 hi1 60 (by omega)) ?_
  rintro r i2 h2 hi2 ⟨k,hk,rfl⟩
  simp(disch:=omega)only[go_sem]
  have hk2:=hk.2 (by omega)
  refine qS (i2) (h2) ⟨0-k,by omega,rfl⟩
 ·simp(disch:=omega)only[go_sem]
  refine jW (zA l hl i1 h1 hi1 [1, -121, -120] (by simp) (by simp)) ?_
  rintro r i2 h2 hi2 ⟨y,hy,rfl⟩
  have hy_b: -121≤y∧y≤1:=by
   simp only[List.mem_cons,List.not_mem_nil,or_false]at hy
   omega
  clear hy
  simp(disch:=omega)only[go_sem]
  refine qS (i2) (h2) ⟨y,by omega,rfl⟩
theorem agn:Con Tryz.prog 67 false [.pt 10000000 0] [.own 0 [.sl l.length (qk l),.v (.int .i64 i),.v (.int .i64 h)]] (Yz l aWn):=by
 refine Con.cur l i h (Q:=fun r hs=>(∀ob∈hs,ob.men fun _=>False)∧aWn (qI (rhp hs []) 6 r)) ?_ fun _ _ h=>h
 refine Con.of_aw Tryz.func67 rfl Tryz.ntmps67 (by simp) (by simp) (by simp) (W.sound ?_)
 show @W Tryz.prog 29 ⟨_⟩ ⟨fun x σ=>@za _ _ _ ⟨_⟩ _ ⟨_⟩ x σ⟩ _ _
 simp(disch:=omega)only[go_sem]
 refine qx (aSQ l hl i h hi) ?_
 rintro r i1 h1 hi1 ⟨n,hn,rfl⟩
 simp(disch:=omega)only[go_sem]
 have hq:=jX hn.2
 refine zh (abR n hn.2) (by simp(disch:=omega)only[go_sem]) ?_
 rintro r hs ⟨rfl,rfl⟩
 refine⟨by simp[qR];simp(disch:=omega)only[go_sem],?_⟩
 simp(disch:=omega)only[go_sem]
 refine qi (fun x:List ExV×Int×Int=>[(0,.pt 10000000 0),(2,.pt 5 0),(3,.v (.int .i64 n)),(4,.pt 4 0),(5,.v (.int .i64 x.1.length))])
  (fun x=>[(3,.own 3 (qn ExV.cs x.1++jj (n*n-x.1.length) z3)),(4,.own 0 [.v (.int .i64 n),.rf 3 0 (n*n)]),(5,.own 0 [.v (.int .i64 0),.v (.slice none 0 0)]),(10000000,.own 0 [.sl l.length (qk l),.v (.int .i64 x.2.1),.v (.int .i64 x.2.2)])])
  (fun x=>x.1.length≤n*n∧(∀y∈x.1,y.ok=true)∧(0≤x.2.1∧x.2.1≤l.length)) (fun x=>n*n-x.1.length) ([],i1,h1) ⟨by simp,by simp,hi1⟩
  (Le.lst [(3,110000000),(4,60000000),(5,40000000)] _ _ rfl (by simp(disch:=omega)only[go_sem]) (by simp(disch:=omega)only[go_sem,Zn,List.nil_append];try rfl)) ?_
 rintro⟨L,i2,h2⟩ ⟨hL,hok,hi2⟩
 dsimp only at hL hok hi2 ⊢
 simp(disch:=omega)only[go_sem]
 refine qg (fun c1=>?_) (fun c1=>?_)
 ·obtain⟨k,hk⟩:∃k,n*n-L.length=k+1:=⟨n*n-L.length-1,by omega⟩
  rw[hk]
  simp(disch:=omega)only[go_sem,c1]
  refine qv rfl [⟨0,[],[]⟩,⟨1,[],[]⟩,⟨2,[1],[]⟩,⟨3,[1],[]⟩,⟨4,[1],[]⟩,⟨5,[],[]⟩,⟨6,[],[]⟩] (by kernel_rfl) ?_
  simp(disch:=omega)only[go_sem]
  refine qx (JP l hl i2 h2 hi2) ?_
  rintro r i3 h3 hi3 ⟨x,hx,rfl⟩
  simp(disch:=omega)only[go_sem]
  have hl3:(L++[x]).length=L.length+1:=by simp
  rw[Xx]
  refine⟨by omega,by rw[List.length_append,JH,agK];omega,qb (L++[x],i3,h3) [] ⟨by dsimp only;omega,fun y hy=>?_,hi3⟩ (by show n*n-(L++[x]).length<k+1;omega) rfl (by simp(disch:=omega)only[go_sem,hl3];try omega) (by simp(disch:=omega)only[go_sem,hl3,show n*n-(L.length+1)=k by omega])⟩
  rcases List.mem_append.1 hy with hy|hy
  ·exact hok y hy
  ·rw[List.mem_singleton.1 hy];exact hx
 ·obtain hLn:L.length=n*n:=by omega
  have hm:∀(M:List DyV),∀ob∈[Ob.own 3 (qn DyV.cs M)],ob.men fun _=>False:=fun M ob ho=>by rw[List.mem_singleton.1 ho];exact of_eq_true af4
  have h16:(L.map ExV.dy).length=n*n:=by rw[List.length_map];exact hLn
  have h200:∀d∈L.map ExV.dy,d.xs.length≤200:=fun d hd=>by
   obtain⟨x,hx,rfl⟩:=List.mem_map.1 hd
   have:=(jv (hok x hx)).2.2.1
   show(lim x.m).length≤200
   omega
  simp(disch:=omega)only[go_sem,c1]
  refine qx (qU l hl i2 h2 hi2 12 (by omega)) ?_
  rintro r i3 h3 hi3 ⟨b,rfl⟩
  simp(disch:=omega)only[go_sem]
  cases b
  ·simp(disch:=omega)only[go_sem]
   rw[hLn,Nat.sub_self,aJr,List.append_nil,asB]
   refine qh [(0,3)] [.own 3 (qn DyV.cs (L.map ExV.dy))] [.own 0 [.sl l.length (qk l),.v (.int .i64 i3),.v (.int .i64 h3)]] [.ag [.v (.int .i64 n),.rf 0 (0*3) (n*n)]] rfl (by simp(disch:=omega)only[go_sem]) (by simp(disch:=omega)only[go_sem]) (by simp) (by simp) ⟨⟨hm _,ata (o:=0) (by omega) (by omega) h200⟩,_,_,hi3,rfl⟩
  ·simp(disch:=omega)only[go_sem]
   refine qx (amM l hl i3 h3 hi3 n hn) ?_
   rintro r i4 h4 hi4 ⟨k,M,hM1,hM2,rfl⟩
   simp(disch:=omega)only[go_sem]
   refine qh [] [] [.own 0 [.sl l.length (qk l),.v (.int .i64 i4),.v (.int .i64 h4)]] [.ag [.v (.int .i64 k),.sl M.length (qn DyV.cs M)]] rfl (by simp(disch:=omega)only[go_sem]) (by simp(disch:=omega)only[go_sem]) (by simp) (by simp) ⟨⟨by simp,k,M,hM1,hM2,?_⟩,_,_,hi4,rfl⟩
   show qI _ 6 _=_
   simp(disch:=omega)only[go_sem]
end
theorem JX(l:List UInt8)(hl:l.length≤9223372036854775807):Con Tryz.prog 12 false [.sl l.length (qk l)] [] (fun r hs bs=>hs=[]∧bs=[]∧∃(n:Int) (L:List DyV) (k:Int),(L.length≤16∧∀d∈L,d.xs.length≤200)∧(-121≤k∧k≤1)∧r=.tu [.ag [.v (.int .i64 n),.sl L.length (qn DyV.cs L)],.v (.int .i64 k)]):=by
 refine Con.of_aw Tryz.func12 rfl Tryz.ntmps12 (by simp) (by simp) (by simp) (W.sound ?_)
 show @W Tryz.prog 11 ⟨_⟩ ⟨fun x σ=>@za _ _ _ ⟨_⟩ _ ⟨_⟩ x σ⟩ _ _
 simp(disch:=omega)only[go_sem]
 refine zh (auF l hl) (by simp(disch:=omega)only[go_sem]) ?_
 rintro r hs ⟨rfl, -,⟨h,rfl⟩⟩
 refine⟨by simp(disch:=omega)only[go_sem],?_⟩
 simp(disch:=omega)only[go_sem]
 refine qx (agn l hl 0 h (by omega)) ?_
 rintro r i1 h1 hi1 ⟨n,L,hL1,hL2,rfl⟩
 simp(disch:=omega)only[go_sem]
 refine qx (amT l hl i1 h1 hi1) ?_
 rintro r i2 h2 hi2 ⟨k,hk,rfl⟩
 simp(disch:=omega)only[go_sem]
 exact qT (by simp(disch:=omega)only[go_sem]) ⟨rfl,rfl,n,L,k,⟨hL1,hL2⟩,hk,rfl⟩
end Go.Ab
namespace Go.Ab
open Go Go.Proofs
/-! ### The exponentials of a matrix and of its opposite-/
theorem aPs(n:Nat)(M:Nat→Nat→Int):∀k,sqI n k (trI n M)=trI n (sqI n k M)
 |0=>rfl
 |k+1=>by
  show qJ n (sqI n k (trI n M)) (sqI n k (trI n M))=trI n (qJ n (sqI n k M) (sqI n k M))
  rw[aPs n M k,X3]
theorem aQu(N:Nat→Nat→Int):(fun i j=>1*N i j)=N:=by
 funext i j;exact Int.one_mul _
theorem avb{n:Nat}{N:Nat→Nat→Int}{c:Int}(h:smallI n N c)(h4:n≤4)(s T:Nat)(hq:6^s*(((T+1:Nat):Int)*((T+1:Nat):Int))≤2^(T+1)):
  aQ4 n (qJ n (sqI n s (eE n N c T)) (sqI n s (eE n (fun i j=> -1*N i j) c T))) (sqD s (eD c T)*sqD s (eD c T)) (6^s*(((T+1:Nat):Int)*((T+1:Nat):Int))) (2^(T+1)):=by
 have e1:=aQu N
 have hD:=jD h.pos T
 have hcm:qJ n (trI n (eE n N c T)) (trI n (eE n (fun i j=> -1*N i j) c T))=qJ n (trI n (eE n (fun i j=> -1*N i j) c T)) (trI n (eE n N c T)):=by
  rw[X3,X3]
  funext i j
  unfold trI
  split
  ·rename_i hij
   have:=aIq N c 1 (-1) T (u:=i) hij.2
   rw[e1]at this
   exact this
  ·rfl
 have base:aQ4 n (qJ n (trI n (eE n N c T)) (trI n (eE n (fun i j=> -1*N i j) c T))) (eD c T*eD c T) (((T+1:Nat):Int)*((T+1:Nat):Int)) (2^(T+1)):=fun u v hu hv=>by
  have:=aSB h (x:=1) (y:= -1) (by decide) (by decide) T hu hv
  rw[e1,show(1+ -1:Int)=0 from rfl,at9]at this
  rw[X3,X4 hu hv,Int.mul_assoc (eD c T) (eD c T) (idI u v),Int.mul_comm (eD c T*eD c T)]
  exact this
 have g:=ahc h4 (Int.mul_pos hD hD) (Int.mul_nonneg (by omega) (by omega)) (Int.pow_pos (by omega)) base s hq
 rw[←(asg hcm s).2,aPs,aPs,X3,←ash]at g
 intro u v hu hv
 have:=g u v hu hv
 rw[X4 hu hv]at this
 exact this
theorem aRz{n:Nat}{L:List ExV}{F:ExV→ExV}(hl:L.length=n*n):gl n (fun i j=>F (L.getD (i*n+j) ex0)) (n*n)=L.map F:=by
 refine List.ext_getElem (by rw[zL,List.length_map,hl]) fun t h1 h2=>?_
 rw[zL]at h1
 have e:(gl n (fun i j=>F (L.getD (i*n+j) ex0)) (n*n)).getD t ex0=F (L.getD t ex0):=by rw[aKX h1,ahp]
 rw[List.getD_eq_getElem?_getD,List.getElem?_eq_getElem (by rw[zL];exact h1),List.getD_eq_getElem?_getD,List.getElem?_eq_getElem (by omega)]at e
 rw[List.getElem_map]
 exact e
def aK6:ExV:=⟨true,1,0⟩
theorem avR(x:ExV):x.times aK6=x.neg:=by
 obtain⟨s,m,e⟩:=x
 show(⟨(s != true)&&decide (m*1≠0),m*1,e+0⟩:ExV)=⟨!s&&decide (m≠0),m,e⟩
 rw[Nat.mul_one,Int.add_zero]
 cases s<;>rfl
theorem aRb{L:List ExV}(h:∀x∈L,x.ok=true):L.all ExV.fit=true∧L.map ExV.can=L:=
 ⟨List.all_eq_true.2 fun x hx=>aVY (h x hx),by
  conv=>rhs;rw[←List.map_id L]
  exact List.map_congr_left fun x hx=>aKE (h x hx)⟩
theorem afJ{n:Nat}{L:List ExV}(h:matV n L):matV n (L.map ExV.neg):=
 ⟨h.n1,h.n4,by rw[List.length_map];exact h.len,fun x hx=>by
  obtain⟨y,hy,rfl⟩:=List.mem_map.1 hx
  exact aWe (h.ok y hy)⟩
theorem aGz{n:Nat}{L:List ExV}(h:matV n L):(qM n L aK6).all ExV.fit=true∧gN n (qM n L aK6)=n∧gT (qM n L aK6)=L.map ExV.neg:=by
 have e:qM n L aK6=L.map ExV.neg:=by
  rw[←aRz h.len]
  unfold qM
  congr 1
  funext i j
  exact avR _
 have hm:=aRb (afJ h).ok
 rw[e]
 exact⟨hm.1,if_pos hm.1,(if_pos hm.1).trans hm.2⟩
theorem ahb{L:List ExV}{t:Nat}:(L.map ExV.neg).getD t ex0=(L.getD t ex0).neg:=by
 rw[List.getD_eq_getElem?_getD,List.getElem?_map,List.getD_eq_getElem?_getD]
 cases L[t]? <;>rfl
theorem aWf{K n:Nat}{L:List ExV}:(fun i j=>mv K (L.map ExV.neg) n i j)=fun i j=> -1*mv K L n i j:=by
 funext i j
 unfold mv
 rw[ahb,afI];omega
theorem as1{n:Nat}{L:List ExV}{j:Nat}:∀k,X1 n (L.map ExV.neg) j k=X1 n L j k
 |0=>rfl
 |k+1=>by
  rw[QZ,QZ,as1 k,ahb];rfl
theorem Xb{n:Nat}{L:List ExV}:∀k,q6 n (L.map ExV.neg) k=q6 n L k
 |0=>rfl
 |k+1=>by rw[yf,yf,Xb k,as1]
theorem aRF{K n i j:Nat}(hi:i<n)(hj:j<n):((gId n).getD (i*n+j) ex0).val K=idI i j*p2 K:=by
 unfold gId
 rw[aHI hi hj]
 unfold idF idI
 split
 ·show sv false 1*2^((0:Int)+(K:Int)).toNat=_
  rw[show((0:Int)+(K:Int)).toNat=K by omega];rfl
 ·rw[Qx,Int.zero_mul]
theorem aJf{n:Nat}{L:List ExV}{low:Int}(h:matV n L)(ha:avc n L low=true):avc n (L.map ExV.neg) low=true∧((qE n (exT n L low) (exT n (L.map ExV.neg) low)).all SpV.fit=true→fN n (qE n (exT n L low) (exT n (L.map ExV.neg) low))=n∧imatV n (fT (qE n (exT n L low) (exT n (L.map ExV.neg) low)))∧aHE (fT (qE n (exT n L low) (exT n (L.map ExV.neg) low))) (gId n) (n*n)=true):=by
 have ha':avc n (L.map ExV.neg) low=true:=by
  unfold avc at ha ⊢
  rw[Xb];exact ha
 refine⟨ha',fun hf=>?_⟩
 have h':=afJ h
 have f:=yp h ha
 obtain⟨-,p1⟩:=QU h f
 obtain⟨-,p2'⟩:=QU h' (yp h' ha')
 have eS:exS n (L.map ExV.neg)=exS n L:=by unfold exS;rw[Xb]
 have eB:acm n (L.map ExV.neg) low=acm n L low:=by unfold acm;rw[eS]
 rw[eB,eS,aWf]at p2'
 generalize hN:(fun i j=>mv 3000 L n i j)=N at*
 have hs:=f.small
 rw[hN]at hs
 generalize hmv:exT n L low=S at*
 generalize exT n (L.map ExV.neg) low=S' at*
 have hN':(fun i j=> -1*mv 3000 L n i j)=fun i j=> -1*N i j:=by rw[←hN]
 rw[hN']at p2'
 generalize exS n L=s at*
 generalize hc:p2 (3000+s)=c at*
 have prod:∀T,tmF (acm n L low)≤T→rtM n (qE n S S') (qJ n (sqI n s (eE n N c T)) (sqI n s (eE n (fun i j=> -1*N i j) c T))) (sqD s (eD c T)*sqD s (eD c T)):=fun T hT=>
  Jh h.n1 (jk (jD hs.pos T) s) (jk (jD hs.pos T) s) (p1 T hT) (p2' T hT)
 obtain⟨K0,k1, -⟩:=prod _ (Nat.le_refl _)
 obtain⟨K,hK⟩:∃K,K=max K0 3000:=⟨_,rfl⟩
 have kK:∀i,i<n*n→((qE n S S').getD i sp0).eK K:=fun i hi=>(k1 i hi).up (by omega)
 have hI:=yj h.n1 h.n4
 have inm:inM K (qE n S S') (gId n) (n*n):=fun i hi=>by
  obtain⟨h1,h2⟩:=Yy hi
  obtain⟨T,hT,hbig⟩:=bkW s K (tmF (acm n L low))
  have hD:=Int.mul_pos (jk (jD hs.pos T) s) (jk (jD hs.pos T) s)
  have hr:=aU6 (prod T hT) kK hD h1 h2
  have hpK:=qZ K
  have h6:(0:Int)≤6^s*(((T+1:Nat):Int)*((T+1:Nat):Int)):=Int.mul_nonneg (Int.le_of_lt (Int.pow_pos (by omega))) (Int.mul_nonneg (by omega) (by omega))
  have hq:6^s*(((T+1:Nat):Int)*((T+1:Nat):Int))≤2^(T+1):=by
   have:=Int.mul_le_mul_of_nonneg_left (show(1:Int)≤p2 K by omega) h6
   have e:(2:Int)^K=p2 K:=rfl
   rw[e]at hbig
   omega
  have hn:=avb hs h.n4 s T hq _ _ h1 h2
  have hq0:(0:Int)<2^(T+1):=Int.pow_pos (by omega)
  obtain⟨a,b⟩:=hr
  have l1:=aKM hD hq0 (Int.le_of_lt hpK) a hn hbig
  have l2:=aWq hD hq0 (Int.le_of_lt hpK) b hn hbig
  have ev:=aRF (K:=K) h1 h2
  rw[ahp]at l1 l2 ev
  rw[ev]
  exact⟨by rw[Int.mul_one];exact l1,by rw[Int.mul_one];exact l2⟩
 have hIm:matV n (gId n):=afT h.n1 h.n4
 obtain⟨g1, -,g3,g4⟩:=aLs (K:=K) (by omega) h.n1 h.n4 zG kK hIm inm hf
 exact⟨g1,g3,g4⟩
set_option maxRecDepth 100000 in
theorem afP(l:List UInt8)(hl:l.length≤9223372036854775807):Con Tryz.prog 4 true [.sl l.length (qk l)] [] (isA (.v (.bool true))):=by
 refine Con.of_w (rs:=[.tmp 2]) Tryz.func4 rfl Tryz.ntmps4 rfl ?_
 simp(disch:=omega)only[go_sem]
 refine zh (JX l hl) (by simp(disch:=omega)only[go_sem]) ?_
 rintro r hs ⟨rfl, -,⟨k,M,low,⟨a1,a2⟩,hlow,rfl⟩⟩
 refine⟨by simp[qR],?_⟩
 simp(disch:=omega)only[go_sem]
 cases hB:atb k M
 ·have ca:=Ya k M low a1 a2 hB
  have ce:=QY _ low ca ⟨_,_,_,rfl⟩
  refine qa (ce) ?_
  simp(disch:=omega)only[go_sem]
  refine ql (ab6) ?_
  simp(disch:=omega)only[go_sem]
  exact qB
 obtain⟨n,L,rfl,rfl,h⟩:=aWm hB
 rw[aGC,List.length_map]
 cases ha:avc n L low
 ·have ca:=ZB n L low h
  rw[ha]at ca
  have ce:=QY _ low ca ⟨_,_,_,rfl⟩
  refine qa (ce) ?_
  simp(disch:=omega)only[go_sem]
  refine ql (ab6) ?_
  simp(disch:=omega)only[go_sem]
  exact qB
 obtain⟨hb,hh⟩:=aJf h ha
 have h':=afJ h
 have c1:=ZD n L low h ha
 have c2:=ZD n (L.map ExV.neg) low h' hb
 have i1:=(QU h (yp h ha)).1
 have i2:=(QU h' (yp h' hb)).1
 have cs:=XQ n L aK6 h (by decide+kernel)
 obtain⟨s1,s2,s3⟩:=aGz h
 rw[s1,s2,s3]at cs
 have cd:=aSU (-1) 0 (by omega) (by omega)
 rw[show(ExV.mk (decide ((-1:Int)<0)) (-1:Int).natAbs 0).tel=aK6 by decide+kernel]at cd
 have cm:=XR n (exT n L low) (exT n (L.map ExV.neg) low) i1 i2
 have cid:=am6 n h.n1 h.n4
 have hIm:matV n (gId n):=afT h.n1 h.n4
 have cH:=fun Q hQ=>XS n Q (gId n) hQ hIm
 generalize aK6=y1 at*
 generalize exT n L low=S at*
 generalize exT n (L.map ExV.neg) low=S' at*
 generalize L.map ExV.neg=L' at*
 generalize fT (qE n S S')=P at*
 generalize fN n (qE n S S')=N at*
 generalize (qE n S S').all SpV.fit=b at*
 generalize gId n=I at*
 refine qa (c1) ?_
 simp(disch:=omega)only[go_sem]
 refine qv rfl [⟨0,[],[]⟩,⟨6,[0],[]⟩,⟨1,[0],[90000000]⟩,⟨2,[],[90000000]⟩,⟨3,[],[90000000]⟩,⟨4,[],[90000000]⟩,⟨5,[],[90000000]⟩,⟨7,[],[]⟩,⟨8,[],[]⟩] (by kernel_rfl) ?_
 simp(disch:=omega)only[go_sem]
 refine qa (cd) ?_
 simp(disch:=omega)only[go_sem]
 refine qa (cs) ?_
 simp(disch:=omega)only[go_sem]
 refine qa (c2) ?_
 simp(disch:=omega)only[go_sem]
 refine qa (cm) ?_
 simp(disch:=omega)only[go_sem]
 refine qa (cid) ?_
 simp(disch:=omega)only[go_sem]
 cases b
 ·simp(disch:=omega)only[go_sem]
  exact qB
 ·obtain⟨q1,q2,q3⟩:=hh rfl
  subst q1
  have cH2:=cH P q2
  rw[q3]at cH2
  simp(disch:=omega)only[go_sem]
  refine ql (cH2) ?_
  simp(disch:=omega)only[go_sem]
  exact qB
end Go.Ab
namespace Go.Proofs.YtgkehjnacdccfaaGreatDoor
open Go.ChangeShapes Go.WideShapes Go.ChangeAt Go.RowKit Go.Ab
theorem own:ownKnob Tryz.prog.godebug=none:=by kernel_rfl
theorem atj:laidOutB Tryz.prog=true:=by kernel_rfl
theorem ase:Tryz.prog.globalNamed "math/bits.deBruijn64tab" =some 1:=by kernel_rfl
theorem aPh:(Tryz.prog.globals[1]?).map (·.type)=some 285:=by kernel_rfl
theorem aPg:Tryz.prog.underlying 285=some (.array 64 5):=by kernel_rfl
theorem aPk:Tryz.prog.underlying 5=some (.int .u8):=by kernel_rfl
theorem aPl:Tryz.prog.cellsOf 5=1:=by kernel_rfl
theorem aPi:Tryz.prog.cellsOf 285=64:=by kernel_rfl
noncomputable def y9:List (String×DataW Unit):=[("math/bits.deBruijn32tab",Rows.laid_math_bits_deBruijn32tab),("math/bits.deBruijn64tab",Rows.laid_math_bits_deBruijn64tab)]
theorem aPj{W:World}(h:laidMetH Tryz.prog y9 W):Gd W:=by
 have h':laidMet Tryz.prog y9 W:=h
 have h2:laidMet Tryz.prog [("math/bits.deBruijn64tab",Lib.tabData .u8 (Lib.deBruijn64tab.map Int.ofNat))] W:=laidMet.tail h'
 have hT:=Lib.tabIs_of_head ase aPh aPg aPk aPl aPi h2
 intro g l hg
 unfold glb at hg
 split at hg
 ·rename_i e
  subst e
  cases hg
  have hc:∀i,i<Lib.deBruijn64tab.length→W.cell? ⟨1,i,none⟩=some (.int .u8 ((Lib.deBruijn64tab.getD i 0:Nat):Int)):=fun i hi=>by
   have:=hT.cell ase i (by simpa using hi)
   rw[this]
   simp[List.getD,hi]
  exact⟨ahG (hc 0 (by decide)),hc⟩
 ·cases hg
noncomputable def abx(os:Os):World:=
 let w0:=World.holding Tryz.prog os ⟨#[],#[],[]⟩
 {w0 with heap:=(w0.heap.modify 1 fun
   | .cells _ t frozen=>.cells (Lib.deBruijn64tab.map fun z=>Value.int .u8 (Int.ofNat z)).toArray t frozen
   |o=>o).modify 0 fun
   | .cells _ t frozen=>.cells (Lib.deBruijn32tab.map fun z=>Value.int .u8 (Int.ofNat z)).toArray t frozen
   |o=>o}
theorem Xj(os:Os)(args:Array Value):laidMetH Tryz.prog y9 ((abx os).forCall (fun _ _=>0) ⟨#[],args,[]⟩).memory:=
 laidMetH_of_parts (laidMet_of_run' 8 (by kernel_rfl) (by kernel_rfl)) (by kernel_rfl)
end Go.Proofs.YtgkehjnacdccfaaGreatDoor
