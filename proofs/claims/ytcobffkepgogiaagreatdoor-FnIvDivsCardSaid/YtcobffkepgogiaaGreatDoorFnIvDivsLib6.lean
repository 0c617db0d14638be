/- What the proof of this claim stands on: the walks of the functions and the plain laws, part 6. -/
import Derived.Test.YtcobffkepgogiaaGreatDoorFnIvDivsLib5
import Derived.Test.YtcobffkepgogiaaGreatDoorRows
import Derived.Test.YtcobffkepgogiaaGreatDoorCards
import Derived.Test.YtcobffkepgogiaaGreatDoorTie
import Derived.Handed
import Derived.ChangeSame
import Derived.JoinedOf
import Derived.RowKit
import Derived.WalkKit
import Derived.ProofKit
import Derived.OpenShut
import Derived.LaidLaws
import Derived.LaidHandle
import Derived.SevenTiedAt
import Derived.Stop.LaidErr
import Derived.Lib.LaidTab
set_option linter.unusedVariables false
set_option linter.unusedSimpArgs false
namespace Go.Ab
open Go Go.Proofs
/-! ### Rational points of intervals-/
theorem aaf{K:Nat}:∀(l:List ExV) (m:ExV), -(K:Int)≤m.e→eK K l→(l.foldl zi m).val K≤m.val K∧(∀x∈l,(l.foldl zi m).val K≤x.val K)∧ -(K:Int)≤(l.foldl zi m).e
 | [],m,hm,_=>⟨Int.le_refl _,(fun x hx=>by cases hx),hm⟩
 |y::l,m,hm,hl=>by
  have hy:=hl y (List.mem_cons_self ..)
  have hl':eK K l:=fun x hx=>hl x (List.mem_cons_of_mem _ hx)
  have h1:(zi m y).val K≤m.val K∧(zi m y).val K≤y.val K∧ -(K:Int)≤(zi m y).e:=by
   rcases Int.lt_or_le (y.val K) (m.val K)with g|g
   ·have e:zi m y=y:=by
     unfold zi
     rw[Jn hy hm,if_pos (by unfold zf;rw[if_pos g];decide)]
    rw[e];exact⟨Int.le_of_lt g,Int.le_refl _,hy⟩
   ·have e:zi m y=m:=by
     unfold zi
     rw[Jn hy hm,if_neg (by unfold zf;rw[if_neg (by omega)];split<;>omega)]
    rw[e];exact⟨Int.le_refl _,g,hm⟩
  obtain⟨g1,g2,g3⟩:=aaf l (zi m y) h1.2.2 hl'
  refine⟨Int.le_trans g1 h1.1,fun x hx=>?_,g3⟩
  rcases List.mem_cons.1 hx with rfl|hx
  ·exact Int.le_trans g1 h1.2.1
  ·exact g2 x hx
theorem aeX{K:Nat}:∀(l:List ExV) (m:ExV), -(K:Int)≤m.e→eK K l→m.val K≤(l.foldl zS m).val K∧(∀x∈l,x.val K≤(l.foldl zS m).val K)∧ -(K:Int)≤(l.foldl zS m).e
 | [],m,hm,_=>⟨Int.le_refl _,(fun x hx=>by cases hx),hm⟩
 |y::l,m,hm,hl=>by
  have hy:=hl y (List.mem_cons_self ..)
  have hl':eK K l:=fun x hx=>hl x (List.mem_cons_of_mem _ hx)
  have h1:m.val K≤(zS m y).val K∧y.val K≤(zS m y).val K∧ -(K:Int)≤(zS m y).e:=by
   rcases Int.lt_or_le (m.val K) (y.val K)with g|g
   ·have e:zS m y=y:=by
     unfold zS
     rw[Jn hy hm,if_pos (by unfold zf;rw[if_neg (by omega),if_pos g];decide)]
    rw[e];exact⟨Int.le_of_lt g,Int.le_refl _,hy⟩
   ·have e:zS m y=m:=by
     unfold zS
     rw[Jn hy hm,if_neg (by unfold zf;split<;>(try split)<;>omega)]
    rw[e];exact⟨Int.le_refl _,g,hm⟩
  obtain⟨g1,g2,g3⟩:=aeX l (zS m y) h1.2.2 hl'
  refine⟨Int.le_trans h1.1 g1,fun x hx=>?_,g3⟩
  rcases List.mem_cons.1 hx with rfl|hx
  ·exact Int.le_trans h1.2.1 g1
  ·exact g2 x hx
theorem zU{K:Nat}{l:List ExV}(h:eK K l):(∀x∈l,(qL l).val K≤x.val K)∧ -(K:Int)≤(qL l).e:=by
 cases l with
 |nil=>exact⟨(fun x hx=>by cases hx),by show-(K:Int)≤0;omega⟩
 |cons y l=>
  obtain⟨g1,g2,g3⟩:=aaf (K:=K) l y (h y (List.mem_cons_self ..)) fun x hx=>h x (List.mem_cons_of_mem _ hx)
  refine⟨fun x hx=>?_,g3⟩
  rcases List.mem_cons.1 hx with rfl|hx
  ·exact g1
  ·exact g2 x hx
theorem jt{K:Nat}{l:List ExV}(h:eK K l):(∀x∈l,x.val K≤(q7 l).val K)∧ -(K:Int)≤(q7 l).e:=by
 cases l with
 |nil=>exact⟨(fun x hx=>by cases hx),by show-(K:Int)≤0;omega⟩
 |cons y l=>
  obtain⟨g1,g2,g3⟩:=aeX (K:=K) l y (h y (List.mem_cons_self ..)) fun x hx=>h x (List.mem_cons_of_mem _ hx)
  refine⟨fun x hx=>?_,g3⟩
  rcases List.mem_cons.1 hx with rfl|hx
  ·exact g1
  ·exact g2 x hx
def SpV.eK(K:Nat)(s:SpV):Prop:= -(K:Int)≤s.lo.e∧ -(K:Int)≤s.hi.e
def inS(K:Nat)(s:SpV)(N D:Int):Prop:=s.lo.val K*D≤N∧N≤s.hi.val K*D
theorem aEZ{K:Nat}{x:ExV}{D:Int}:inS K ⟨x,x⟩ (x.val K*D) D:=⟨Int.le_refl _,Int.le_refl _⟩
theorem times_eK{K K':Nat}{s t:SpV}(hs:s.eK K)(ht:t.eK K'):eK (K+K') (q5 ExV.times s t):=fun x hx=>by
 obtain⟨a,b⟩:=hs
 obtain⟨c,d⟩:=ht
 simp only[q5,List.mem_cons,List.not_mem_nil,or_false]at hx
 rcases hx with rfl|rfl|rfl|rfl
 ·show _≤s.lo.e+t.lo.e;omega
 ·show _≤s.lo.e+t.hi.e;omega
 ·show _≤s.hi.e+t.lo.e;omega
 ·show _≤s.hi.e+t.hi.e;omega
theorem SpV.times_eK{K K':Nat}{s t:SpV}(hs:s.eK K)(ht:t.eK K'):(s.times t).eK (K+K'):=⟨(zU (Go.Ab.times_eK hs ht)).2,(jt (Go.Ab.times_eK hs ht)).2⟩
theorem aak{K K':Nat}{s t:SpV}{N D N' D':Int}(hs:s.eK K)(ht:t.eK K')(hD:0<D)(hD':0<D')(h:inS K s N D)(h':inS K' t N' D'):inS (K+K') (s.times t) (N*N') (D*D'):=by
 have he:=Go.Ab.times_eK hs ht
 obtain⟨l1, -⟩:=zU he
 obtain⟨m1, -⟩:=jt he
 have hDD:0≤D*D':=Int.le_of_lt (Int.mul_pos hD hD')
 obtain⟨a,b⟩:=hs
 obtain⟨c,d⟩:=ht
 have f:∀x y:ExV, -(K:Int)≤x.e→ -(K':Int)≤y.e→(x.times y).val (K+K')*(D*D')=(x.val K*D)*(y.val K'*D'):=fun x y hx hy=>by
  rw[Zr hx hy];grind
 have L:∀x∈q5 ExV.times s t,(qL (q5 ExV.times s t)).val (K+K')*(D*D')≤x.val (K+K')*(D*D'):=fun x hx=>Int.mul_le_mul_of_nonneg_right (l1 x hx) hDD
 have M:∀x∈q5 ExV.times s t,x.val (K+K')*(D*D')≤(q7 (q5 ExV.times s t)).val (K+K')*(D*D'):=fun x hx=>Int.mul_le_mul_of_nonneg_right (m1 x hx) hDD
 have i1:s.lo.times t.lo∈q5 ExV.times s t:=by simp[q5]
 have i2:s.lo.times t.hi∈q5 ExV.times s t:=by simp[q5]
 have i3:s.hi.times t.lo∈q5 ExV.times s t:=by simp[q5]
 have i4:s.hi.times t.hi∈q5 ExV.times s t:=by simp[q5]
 have L1:=L _ i1
 have L2:=L _ i2
 have L3:=L _ i3
 have L4:=L _ i4
 have M1:=M _ i1
 have M2:=M _ i2
 have M3:=M _ i3
 have M4:=M _ i4
 rw[f _ _ a c]at L1 M1
 rw[f _ _ a d]at L2 M2
 rw[f _ _ b c]at L3 M3
 rw[f _ _ b d]at L4 M4
 exact adP h.1 h.2 h'.1 h'.2 L1 L2 L3 L4 M1 M2 M3 M4
theorem YN{K:Nat}{s:SpV}{N D:Int}(hs:s.eK K):inS K s.can N D↔inS K s N D:=by
 unfold inS
 rw[show s.can.lo=s.lo.can from rfl,show s.can.hi=s.hi.can from rfl,yu hs.1,yu hs.2]
theorem SpV.can_eK{K:Nat}{s:SpV}(hs:s.eK K):s.can.eK K:=⟨aTf hs.1 (by omega),aTf hs.2 (by omega)⟩
theorem Qw{K j:Nat}{x y:ExV}(hx: -(K:Int)≤x.e)(hy: -(K:Int)≤y.e):x.val K≤y.val K↔x.val (K+j)≤y.val (K+j):=by
 rw[aku hx,aku hy]
 have hp:(0:Int)<2^j:=QV j
 exact⟨fun h=>Int.mul_le_mul_of_nonneg_right h (Int.le_of_lt hp),fun h=>Int.le_of_mul_le_mul_right h hp⟩
theorem y8{K:Nat}{s:SpV}(hK:3000≤K)(hs:s.eK K)(h:s.lo.val K≤s.hi.val K):s.tel.ok=true:=by
 unfold SpV.tel
 split
 ·rename_i hf
  have hf:(s.lo.fit&&s.hi.fit)=true:=hf
  rw[Bool.and_eq_true]at hf
  have o1:=aqY hf.1
  have o2:=aqY hf.2
  show(s.lo.can.ok&&(s.hi.can.ok&&decide (s.lo.can.val 3000≤s.hi.can.val 3000)))=true
  rw[o1,o2,Bool.true_and,Bool.true_and]
  refine decide_eq_true ((Qw (j:=K-3000) (zz o1).1.1 (zz o2).1.1).2 ?_)
  rw[show 3000+(K-3000)=K by omega,yu hs.1,yu hs.2]
  exact h
 ·decide+kernel
theorem zY{s:SpV}(h:s.ok=true):s.eK 3000∧s.lo.val 3000≤s.hi.val 3000∧s.lo.ok=true∧s.hi.ok=true:=by
 have h:(s.lo.ok&&(s.hi.ok&&decide (s.lo.val 3000≤s.hi.val 3000)))=true:=h
 simp only[Bool.and_eq_true,decide_eq_true_eq]at h
 exact⟨⟨(zz h.1).1.1,(zz h.2.1).1.1⟩,h.2.2,h.1,h.2.1⟩
theorem Xp{K K':Nat}{s t:SpV}(hs:s.eK K)(ht:t.eK K'):(s.times t).lo.val (K+K')≤(s.times t).hi.val (K+K'):=by
 have he:=Go.Ab.times_eK hs ht
 have i1:s.lo.times t.lo∈q5 ExV.times s t:=by simp[q5]
 exact Int.le_trans ((zU he).1 _ i1) ((jt he).1 _ i1)
theorem Yh(s t:SpV)(hs:s.ok=true)(ht:t.ok=true):Con Tryz.prog 31 false [.ag [.v (.bool (s).lo.s),.sl (lim (s).lo.m).length (qb (lim (s).lo.m)),.v (.int .i64 (s).lo.e),.v (.bool (s).hi.s),.sl (lim (s).hi.m).length (qb (lim (s).hi.m)),.v (.int .i64 (s).hi.e)],.ag [.v (.bool (t).lo.s),.sl (lim (t).lo.m).length (qb (lim (t).lo.m)),.v (.int .i64 (t).lo.e),.v (.bool (t).hi.s),.sl (lim (t).hi.m).length (qb (lim (t).hi.m)),.v (.int .i64 (t).hi.e)]] [] (isA (.tu [.ag [.v (.bool ((s.times t).tel).lo.s),.sl (lim ((s.times t).tel).lo.m).length (qb (lim ((s.times t).tel).lo.m)),.v (.int .i64 ((s.times t).tel).lo.e),.v (.bool ((s.times t).tel).hi.s),.sl (lim ((s.times t).tel).hi.m).length (qb (lim ((s.times t).tel).hi.m)),.v (.int .i64 ((s.times t).tel).hi.e)],.v (.bool (s.times t).fit)])):=by
 refine Con.frzA ?_
 have ca:=jx s t hs ht
 have bs:=jz hs
 have bt:=jz ht
 have bp:(s.times t).bd (-6000) 9200:=(SpV.times_bd bs bt).mono (by omega) (by omega)
 have ci:=Qp (s.times t) ⟨bp.1.mono (by omega) (by omega),bp.2.mono (by omega) (by omega)⟩
 have cp:=Z8 s t ⟨bs.1.mono (by omega) (by omega),bs.2.mono (by omega) (by omega)⟩ ⟨bt.1.mono (by omega) (by omega),bt.2.mono (by omega) (by omega)⟩
 generalize s.times t=y at*
 refine Con.of_w (rs:=[.cell 4 51,.tmp 5]) Tryz.func31 rfl Tryz.ntmps31 rfl ?_
 simp(disch:=omega)only[go_sem]
 refine qi (ca) ?_
 simp(disch:=omega)only[go_sem]
 refine qp rfl [⟨0,[],[]⟩,⟨2,[0],[]⟩,⟨1,[2],[]⟩,⟨3,[],[]⟩,⟨4,[],[]⟩,⟨5,[],[]⟩,⟨6,[],[]⟩,⟨7,[],[]⟩,⟨8,[],[]⟩,⟨9,[],[]⟩] (by kernel_rfl) ?_
 simp(disch:=omega)only[go_sem]
 refine qa (zw s) ?_
 simp(disch:=omega)only[go_sem]
 refine qa (zw t) ?_
 simp(disch:=omega)only[go_sem]
 refine qa (cp) ?_
 simp(disch:=omega)only[go_sem]
 refine qa (ci) ?_
 simp(disch:=omega)only[go_sem]
 exact qk
end Go.Ab
namespace Go.Ab
open Go Go.Proofs
section
variable (l:List UInt8)(hl:l.length≤9223372036854775807)(i h:Int)(hi:0≤i∧i≤l.length)
include hl hi
end
end Go.Ab
namespace Go.Ab
open Go Go.Proofs
section
variable (l:List UInt8)(hl:l.length≤9223372036854775807)(i h:Int)(hi:0≤i∧i≤l.length)
include hl hi
theorem jO:Con Tryz.prog 102 false [.pt 10000000 0] [.own 0 [.sl l.length (ql l),.v (.int .i64 i),.v (.int .i64 h)]] (Xn l fun r=>∃k:Int,(-201≤k∧k≤201)∧r=.v (.int .i64 k)):=by
 refine Con.of_aw Tryz.func102 rfl Tryz.ntmps102 (by simp) (by simp) (by simp) (W.sound ?_)
 show @W Tryz.prog 6 ⟨_⟩ ⟨fun x σ=>@qX _ _ _ ⟨_⟩ _ ⟨_⟩ x σ⟩ _ _
 simp(disch:=omega)only[go_sem]
 refine jR (zD l hl i h hi [0, -10, -20,5, -200,200, -201,201, -3, -60] (by simp) (by simp)) ?_
 rintro r i1 h1 hi1 ⟨y,hy,rfl⟩
 have hy_b: -201≤y∧y≤201:=by
  simp only[List.mem_cons,List.not_mem_nil,or_false]at hy
  omega
 clear hy
 simp(disch:=omega)only[go_sem]
 refine qM (i1) (h1) ⟨y,by omega,rfl⟩
end
end Go.Ab
namespace Go.Ab
open Go Go.Proofs
/-! ### Quotients and roots of intervals-/
section
variable (l:List UInt8)(hl:l.length≤9223372036854775807)(i h:Int)(hi:0≤i∧i≤l.length)
include hl hi
theorem yZ:Con Tryz.prog 101 false [.pt 10000000 0] [.own 0 [.sl l.length (ql l),.v (.int .i64 i),.v (.int .i64 h)]] (Xn l fun r=>∃(d:DyV) (x:ExV),d.xs.length≤200∧x.ok=true∧r=.ag [.v (.bool d.s),.sl d.xs.length (qb d.xs),.v (.int .i64 d.e),.v (.bool x.s),.sl (lim x.m).length (qb (lim x.m)),.v (.int .i64 x.e)]):=by
 refine Con.of_aw Tryz.func101 rfl Tryz.ntmps101 (by simp) (by simp) (by simp) (W.sound ?_)
 show @W Tryz.prog 19 ⟨_⟩ ⟨fun x σ=>@qX _ _ _ ⟨_⟩ _ ⟨_⟩ x σ⟩ _ _
 simp(disch:=omega)only[go_sem]
 refine qt (ajN l hl i h hi) ?_
 rintro r i1 h1 hi1 ⟨s,hs,rfl⟩
 simp(disch:=omega)only[go_sem]
 have o1:=(y9 hs).1
 have o2:=(y9 hs).2.1
 have r1:=(zz o1).2.2.1
 have r2:=(zz o2).2.2.1
 refine qt (qR l hl i1 h1 hi1 10 (by omega)) ?_
 rintro r i2 h2 hi2 ⟨b,rfl⟩
 simp(disch:=omega)only[go_sem]
 cases b
 ·simp(disch:=omega)only[go_sem]
  refine qM (i2) (h2) ⟨s.lo.dyv,s.hi,by show(lim s.lo.m).length≤200;omega,o2,rfl⟩
 ·simp(disch:=omega)only[go_sem]
  refine qt (qR l hl i2 h2 hi2 2 (by omega)) ?_
  rintro r i3 h3 hi3 ⟨b,rfl⟩
  simp(disch:=omega)only[go_sem]
  cases b
  ·simp(disch:=omega)only[go_sem]
   refine qt (ajP l hl i3 h3 hi3) ?_
   rintro r i4 h4 hi4 ⟨⟨S,xs,E⟩,hxs,rfl⟩
   simp(disch:=omega)only[go_sem]
   dsimp only at hxs
   unfold DyV.cs
   simp(disch:=omega)only[go_sem]
   refine qM (i4) (h4) ⟨⟨S,xs,E⟩,s.hi,hxs,o2,rfl⟩
  ·simp(disch:=omega)only[go_sem]
   refine qM (i3) (h3) ⟨s.hi.dyv,s.lo,by show(lim s.hi.m).length≤200;omega,o1,rfl⟩
end
def ivX(d:DyV)(x:ExV):IvV:=⟨d,x.dyv⟩
theorem JY{d:DyV}{x:ExV}(h1:d.xs.length≤200)(h2:x.ok=true):arB (ivX d x):=⟨by show d.xs.length≤1000;omega,by have:=(zz h2).2.2.1;show(lim x.m).length≤1000;omega⟩
theorem Xf(l:List UInt8)(hl:l.length≤9223372036854775807):Con Tryz.prog 28 false [.sl l.length (ql l)] [] (fun r hs bs=>hs=[]∧bs=[]∧∃(a b:IvV) (low:Int),arB a∧arB b∧(-201≤low∧low≤201)∧r=.tu [.ag [.v (.bool (a).lo.s),.sl (a).lo.xs.length (qb (a).lo.xs),.v (.int .i64 (a).lo.e),.v (.bool (a).hi.s),.sl (a).hi.xs.length (qb (a).hi.xs),.v (.int .i64 (a).hi.e)],.ag [.v (.bool (b).lo.s),.sl (b).lo.xs.length (qb (b).lo.xs),.v (.int .i64 (b).lo.e),.v (.bool (b).hi.s),.sl (b).hi.xs.length (qb (b).hi.xs),.v (.int .i64 (b).hi.e)],.v (.int .i64 low)]):=by
 refine Con.of_aw Tryz.func28 rfl Tryz.ntmps28 (by simp) (by simp) (by simp) (W.sound ?_)
 show @W Tryz.prog 18 ⟨_⟩ ⟨fun x σ=>@qX _ _ _ ⟨_⟩ _ ⟨_⟩ x σ⟩ _ _
 simp(disch:=omega)only[go_sem]
 refine q9 (aaE l hl) (by simp(disch:=omega)only[go_sem]) ?_
 rintro r hs ⟨rfl, -,⟨h,rfl⟩⟩
 refine⟨by simp(disch:=omega)only[go_sem],?_⟩
 simp(disch:=omega)only[go_sem]
 refine qt (yZ l hl 0 h (by omega)) ?_
 rintro r i1 h1 hi1 ⟨d,x,d1,x1,rfl⟩
 simp(disch:=omega)only[go_sem]
 refine qt (yZ l hl i1 h1 hi1) ?_
 rintro r i2 h2 hi2 ⟨d',x',d2,x2,rfl⟩
 simp(disch:=omega)only[go_sem]
 refine qp rfl [⟨0,[],[]⟩,⟨1,[0],[]⟩,⟨2,[0,1],[]⟩,⟨3,[0,1],[]⟩,⟨4,[1],[]⟩,⟨5,[],[]⟩,⟨6,[],[]⟩] (by kernel_rfl) ?_
 simp(disch:=omega)only[go_sem]
 refine qt (jO l hl i2 h2 hi2) ?_
 rintro r i3 h3 hi3 ⟨low,hlow,rfl⟩
 simp(disch:=omega)only[go_sem]
 exact qG (by simp(disch:=omega)only[go_sem]) ⟨rfl,rfl,ivX d x,ivX d' x',low,JY d1 x1,JY d2 x2,hlow,rfl⟩
theorem JE(l:List UInt8)(hl:l.length≤9223372036854775807):Con Tryz.prog 33 false [.sl l.length (ql l)] [] (fun r hs bs=>hs=[]∧bs=[]∧∃(a:IvV) (low:Int),arB a∧(-201≤low∧low≤201)∧r=.tu [.ag [.v (.bool (a).lo.s),.sl (a).lo.xs.length (qb (a).lo.xs),.v (.int .i64 (a).lo.e),.v (.bool (a).hi.s),.sl (a).hi.xs.length (qb (a).hi.xs),.v (.int .i64 (a).hi.e)],.v (.int .i64 low)]):=by
 refine Con.of_aw Tryz.func33 rfl Tryz.ntmps33 (by simp) (by simp) (by simp) (W.sound ?_)
 show @W Tryz.prog 32 ⟨_⟩ ⟨fun x σ=>@qX _ _ _ ⟨_⟩ _ ⟨_⟩ x σ⟩ _ _
 simp(disch:=omega)only[go_sem]
 refine q9 (aaE l hl) (by simp(disch:=omega)only[go_sem]) ?_
 rintro r hs ⟨rfl, -,⟨h,rfl⟩⟩
 refine⟨by simp(disch:=omega)only[go_sem],?_⟩
 simp(disch:=omega)only[go_sem]
 refine qt (yZ l hl 0 h (by omega)) ?_
 rintro r i1 h1 hi1 ⟨d,x,d1,x1,rfl⟩
 simp(disch:=omega)only[go_sem]
 cases hds:d.s
 ·simp(disch:=omega)only[go_sem,hds]
  refine qp rfl [⟨0,[],[]⟩,⟨1,[0],[]⟩,⟨2,[0],[]⟩,⟨3,[],[]⟩,⟨4,[],[]⟩] (by kernel_rfl) ?_
  simp(disch:=omega)only[go_sem]
  refine qt (jO l hl i1 h1 hi1) ?_
  rintro r i3 h3 hi3 ⟨low,hlow,rfl⟩
  simp(disch:=omega)only[go_sem]
  exact qG (by simp(disch:=omega)only[go_sem]) ⟨rfl,rfl,ivX d x,low,JY d1 x1,hlow,by rw[←hds];rfl⟩
 simp(disch:=omega)only[go_sem,hds]
 refine qt (qR l hl i1 h1 hi1 6 (by omega)) ?_
 rintro r i2 h2 hi2 ⟨b,rfl⟩
 simp(disch:=omega)only[go_sem]
 cases b
 rotate_left
 ·simp(disch:=omega)only[go_sem,Bool.not_true]
  refine qp rfl [⟨0,[],[]⟩,⟨1,[0],[]⟩,⟨2,[0],[]⟩,⟨3,[],[]⟩,⟨4,[],[]⟩] (by kernel_rfl) ?_
  simp(disch:=omega)only[go_sem]
  refine qt (jO l hl i2 h2 hi2) ?_
  rintro r i3 h3 hi3 ⟨low,hlow,rfl⟩
  simp(disch:=omega)only[go_sem]
  exact qG (by simp(disch:=omega)only[go_sem]) ⟨rfl,rfl,ivX d x,low,JY d1 x1,hlow,by rw[←hds];rfl⟩
 simp(disch:=omega)only[go_sem,Bool.not_false]
 cases hxs:x.s
 ·obtain⟨S,m,E⟩:=x
  dsimp only at hxs
  subst hxs
  simp(disch:=omega)only[go_sem]
  refine ad4 (E:=[(2,.pt 2 0),(4,.pt 4 0),(5,.pt 5 0)]) (H:=[(2,.own 0 [.v (.bool false),.v (.slice none 0 0),.v (.int .i64 0),.v (.bool false),.v (.slice none 0 0),.v (.int .i64 0)]),(4,.own 0 [.sl l.length (ql l),.v (.int .i64 i2),.v (.int .i64 h2)]),(5,.own 0 [.v (.bool false),.sl 0 [],.v (.int .i64 0),.v (.bool false),.sl (lim m).length (qb (lim m)),.v (.int .i64 E)])])
   ((Le.nilC 70000000 1 (zo:=0) (cs:=[.v (.bool false),.v (.slice none 0 0),.v (.int .i64 0),.v (.bool false),.sl (lim m).length (qb (lim m)),.v (.int .i64 E)]) (by simp(disch:=omega)only[go_sem]) rfl).trans (Le.lst [(2,40000000),(4,90000000),(5,70000000)] _ _ rfl (by simp(disch:=omega)only[go_sem]) (by simp(disch:=omega)only[go_sem,List.set_cons_succ,List.set_cons_zero]))) ?_
  refine qp rfl [⟨0,[],[]⟩,⟨1,[0],[]⟩,⟨2,[0],[]⟩,⟨3,[],[]⟩,⟨4,[],[]⟩] (by kernel_rfl) ?_
  simp(disch:=omega)only[go_sem]
  refine qt (jO l hl i2 h2 hi2) ?_
  rintro r i3 h3 hi3 ⟨low,hlow,rfl⟩
  simp(disch:=omega)only[go_sem]
  exact qG (by simp(disch:=omega)only[go_sem]) ⟨rfl,rfl,ivX dy0 ⟨false,m,E⟩,low,JY (by decide) x1,hlow,rfl⟩
 ·have cn:=aaA x.s x.m x.e (by have:=(zz x1).2.2.1;omega)
  change Con _ _ _ _ _ (isA (.ag [.v (.bool (x.neg).s),.sl (lim (x.neg).m).length (qb (lim (x.neg).m)),.v (.int .i64 (x.neg).e)]))at cn
  have on:=aOU x1
  rw[hxs]at cn
  generalize x.neg=z at*
  simp(disch:=omega)only[go_sem,hxs]
  refine qa (cn) ?_
  simp(disch:=omega)only[go_sem]
  refine ad4 (E:=[(2,.pt 2 0),(4,.pt 4 0),(5,.pt 5 0)]) (H:=[(2,.own 0 [.v (.bool false),.v (.slice none 0 0),.v (.int .i64 0),.v (.bool false),.v (.slice none 0 0),.v (.int .i64 0)]),(4,.own 0 [.sl l.length (ql l),.v (.int .i64 i2),.v (.int .i64 h2)]),(5,.own 0 [.v (.bool false),.sl 0 [],.v (.int .i64 0),.v (.bool z.s),.sl (lim z.m).length (qb (lim z.m)),.v (.int .i64 z.e)])])
   ((Le.nilC 70000000 1 (zo:=0) (cs:=[.v (.bool false),.v (.slice none 0 0),.v (.int .i64 0),.v (.bool z.s),.sl (lim z.m).length (qb (lim z.m)),.v (.int .i64 z.e)]) (by simp(disch:=omega)only[go_sem]) rfl).trans (Le.lst [(2,40000000),(4,90000000),(5,70000000)] _ _ rfl (by simp(disch:=omega)only[go_sem]) (by simp(disch:=omega)only[go_sem,List.set_cons_succ,List.set_cons_zero]))) ?_
  refine qp rfl [⟨0,[],[]⟩,⟨1,[0],[]⟩,⟨2,[0],[]⟩,⟨3,[],[]⟩,⟨4,[],[]⟩] (by kernel_rfl) ?_
  simp(disch:=omega)only[go_sem]
  refine qt (jO l hl i2 h2 hi2) ?_
  rintro r i3 h3 hi3 ⟨low,hlow,rfl⟩
  simp(disch:=omega)only[go_sem]
  exact qG (by simp(disch:=omega)only[go_sem]) ⟨rfl,rfl,ivX dy0 z,low,JY (by decide) on,hlow,rfl⟩
theorem bbK(t:SpV)(ht:t.ok=true):Con Tryz.prog 106 true [.ag [.v (.bool (t).lo.s),.sl (lim (t).lo.m).length (qb (lim (t).lo.m)),.v (.int .i64 (t).lo.e),.v (.bool (t).hi.s),.sl (lim (t).hi.m).length (qb (lim (t).hi.m)),.v (.int .i64 (t).hi.e)],.ag [.v (.bool (ex0).s),.sl (lim (ex0).m).length (qb (lim (ex0).m)),.v (.int .i64 (ex0).e)]] [] (isA (.v (.bool (Xm t ex0)))):=Qq t ex0 ht J0
theorem apd{t:SpV}(ht:t.ok=true)(h:Xm t ex0=false):t.lo.m≠0∧t.hi.m≠0:=by
 obtain⟨e,o, -, -⟩:=zY ht
 unfold Xm at h
 rw[aLC]at h
 constructor
 ·intro h0
  have e1:t.lo.val 3000=0:=J1.2 h0
  rw[e1]at h o
  rw[decide_eq_true (Int.le_refl 0),decide_eq_true o]at h
  cases h
 ·intro h0
  have e1:t.hi.val 3000=0:=J1.2 h0
  rw[e1]at h o
  rw[decide_eq_true (Int.le_refl 0),decide_eq_true o]at h
  cases h
theorem aBo{s t:SpV}{low:Int}(hs:s.ok=true)(ht:t.ok=true)(hlo: -200≤low∧low≤200):(s.over t low).bd (-200) 8000:=by
 have bs:=jz hs
 have bt:=jz ht
 have:=SpV.over_bd (s:=s) (t:=t) (low:=low) (H:=7900) bs ⟨bt.1.2.1,bt.2.2.1⟩ (by omega) (by omega)
 exact⟨this.1.mono (by omega) (by omega),this.2.mono (by omega) (by omega)⟩
theorem aj3(s t:SpV)(low:Int)(hs:s.ok=true)(ht:t.ok=true)(h0:Xm t ex0=false)(hlo: -200≤low∧low≤200):Con Tryz.prog 29 false [.ag [.v (.bool (s).lo.s),.sl (lim (s).lo.m).length (qb (lim (s).lo.m)),.v (.int .i64 (s).lo.e),.v (.bool (s).hi.s),.sl (lim (s).hi.m).length (qb (lim (s).hi.m)),.v (.int .i64 (s).hi.e)],.ag [.v (.bool (t).lo.s),.sl (lim (t).lo.m).length (qb (lim (t).lo.m)),.v (.int .i64 (t).lo.e),.v (.bool (t).hi.s),.sl (lim (t).hi.m).length (qb (lim (t).hi.m)),.v (.int .i64 (t).hi.e)],.v (.int .i64 low)] [] (isA (.tu [.ag [.v (.bool ((s.over t low).tel).lo.s),.sl (lim ((s.over t low).tel).lo.m).length (qb (lim ((s.over t low).tel).lo.m)),.v (.int .i64 ((s.over t low).tel).lo.e),.v (.bool ((s.over t low).tel).hi.s),.sl (lim ((s.over t low).tel).hi.m).length (qb (lim ((s.over t low).tel).hi.m)),.v (.int .i64 ((s.over t low).tel).hi.e)],.v (.bool (s.over t low).fit)])):=by
 refine Con.frzA ?_
 have ca:=jx s t hs ht
 have cf:=jQ low
 rw[decide_eq_true hlo.1,decide_eq_true hlo.2]at cf
 have ch:=bbK t ht
 rw[h0]at ch
 have bs:=jz hs
 have bt:=jz ht
 obtain⟨m1,m2⟩:=apd ht h0
 have bo:=aBo hs ht hlo
 have co:=J5 s t low m1 m2 ⟨bs.1.mono (by omega) (by omega),bs.2.mono (by omega) (by omega)⟩ ⟨bt.1.mono (by omega) (by omega),bt.2.mono (by omega) (by omega)⟩ (by omega)
 have ci:=Qp (s.over t low) ⟨bo.1.mono (by omega) (by omega),bo.2.mono (by omega) (by omega)⟩
 generalize s.over t low=y at*
 refine Con.of_w (rs:=[.cell 6 51,.tmp 7]) Tryz.func29 rfl Tryz.ntmps29 rfl ?_
 simp(disch:=omega)only[go_sem]
 refine qi (ca) ?_
 simp(disch:=omega)only[go_sem]
 refine qi (cf) ?_
 simp(disch:=omega)only[go_sem]
 refine qa (zw t) ?_
 simp(disch:=omega)only[go_sem]
 refine qi (ch) ?_ (by simp(disch:=omega)only[go_sem,ex0,qm,List.length_nil,ze])
 simp(disch:=omega)only[go_sem]
 refine qp rfl [⟨0,[],[]⟩,⟨2,[0],[]⟩,⟨4,[0,2],[]⟩,⟨1,[2],[]⟩,⟨3,[],[]⟩,⟨5,[],[]⟩,⟨6,[],[]⟩,⟨7,[],[]⟩,⟨8,[],[]⟩,⟨9,[],[]⟩,⟨10,[],[]⟩] (by kernel_rfl) ?_
 simp(disch:=omega)only[go_sem]
 refine qa (zw s) ?_
 simp(disch:=omega)only[go_sem]
 refine qa (zw t) ?_
 simp(disch:=omega)only[go_sem]
 refine qa (co) ?_
 simp(disch:=omega)only[go_sem]
 refine qa (ci) ?_
 simp(disch:=omega)only[go_sem]
 exact qk
theorem aaP(a b:IvV)(low:Int)(ha:arB a)(hb:arB b)(h:(ivB a&&ivB b&&(decide (-200≤low)&&decide (low≤200)))=false):Con Tryz.prog 29 false [.ag [.v (.bool (a).lo.s),.sl (a).lo.xs.length (qb (a).lo.xs),.v (.int .i64 (a).lo.e),.v (.bool (a).hi.s),.sl (a).hi.xs.length (qb (a).hi.xs),.v (.int .i64 (a).hi.e)],.ag [.v (.bool (b).lo.s),.sl (b).lo.xs.length (qb (b).lo.xs),.v (.int .i64 (b).lo.e),.v (.bool (b).hi.s),.sl (b).hi.xs.length (qb (b).hi.xs),.v (.int .i64 (b).hi.e)],.v (.int .i64 low)] [] (isA (.tu [.ag [.v (.bool (sp0).lo.s),.sl (lim (sp0).lo.m).length (qb (lim (sp0).lo.m)),.v (.int .i64 (sp0).lo.e),.v (.bool (sp0).hi.s),.sl (lim (sp0).hi.m).length (qb (lim (sp0).hi.m)),.v (.int .i64 (sp0).hi.e)],.v (.bool false)])):=by
 refine Con.frzA ?_
 have ca:=Jk a b ha hb
 have cf:=jQ low
 refine Con.of_w (rs:=[.cell 6 51,.tmp 7]) Tryz.func29 rfl Tryz.ntmps29 rfl ?_
 simp(disch:=omega)only[go_sem]
 cases hab:(ivB a&&ivB b)
 ·rw[hab]at ca
  refine qi (ca) ?_
  simp(disch:=omega)only[go_sem]
  exact qk (hp:=by simp(disch:=omega)only[go_sem,sp0,ex0,qm,List.length_nil,ze])
 ·rw[hab,Bool.true_and]at h
  rw[hab]at ca
  rw[h]at cf
  refine qi (ca) ?_
  simp(disch:=omega)only[go_sem]
  refine qi (cf) ?_
  simp(disch:=omega)only[go_sem]
  exact qk (hp:=by simp(disch:=omega)only[go_sem,sp0,ex0,qm,List.length_nil,ze])
theorem aj4(s t:SpV)(low:Int)(hs:s.ok=true)(ht:t.ok=true)(h0:Xm t ex0=true)(hlo: -200≤low∧low≤200):Con Tryz.prog 29 false [.ag [.v (.bool (s).lo.s),.sl (lim (s).lo.m).length (qb (lim (s).lo.m)),.v (.int .i64 (s).lo.e),.v (.bool (s).hi.s),.sl (lim (s).hi.m).length (qb (lim (s).hi.m)),.v (.int .i64 (s).hi.e)],.ag [.v (.bool (t).lo.s),.sl (lim (t).lo.m).length (qb (lim (t).lo.m)),.v (.int .i64 (t).lo.e),.v (.bool (t).hi.s),.sl (lim (t).hi.m).length (qb (lim (t).hi.m)),.v (.int .i64 (t).hi.e)],.v (.int .i64 low)] [] (isA (.tu [.ag [.v (.bool (sp0).lo.s),.sl (lim (sp0).lo.m).length (qb (lim (sp0).lo.m)),.v (.int .i64 (sp0).lo.e),.v (.bool (sp0).hi.s),.sl (lim (sp0).hi.m).length (qb (lim (sp0).hi.m)),.v (.int .i64 (sp0).hi.e)],.v (.bool false)])):=by
 refine Con.frzA ?_
 have ca:=jx s t hs ht
 have cf:=jQ low
 rw[decide_eq_true hlo.1,decide_eq_true hlo.2]at cf
 have ch:=bbK t ht
 rw[h0]at ch
 refine Con.of_w (rs:=[.cell 6 51,.tmp 7]) Tryz.func29 rfl Tryz.ntmps29 rfl ?_
 simp(disch:=omega)only[go_sem]
 refine qi (ca) ?_
 simp(disch:=omega)only[go_sem]
 refine qi (cf) ?_
 simp(disch:=omega)only[go_sem]
 refine qa (zw t) ?_
 simp(disch:=omega)only[go_sem]
 refine qi (ch) ?_ (by simp(disch:=omega)only[go_sem,ex0,qm,List.length_nil,ze])
 simp(disch:=omega)only[go_sem]
 exact qk (hp:=by simp(disch:=omega)only[go_sem,sp0,ex0,qm,List.length_nil,ze])
def zF(s:SpV)(low:Int):SpV:=⟨rtE s.lo low 3,rtE s.hi low 2⟩
theorem aEM{x:ExV}(hx:x.ok=true){low md:Int}(hlo: -200≤low∧low≤200):(rtE x low md).bd (-200) 12000:=by
 refine⟨fun _=>rfl,hlo.1,?_⟩
 obtain⟨r1,r2, -⟩:=zz hx
 show(bl (rq false (sqA x.m x.e low) 4 md):Int)+low≤12000
 obtain⟨B,hB⟩:∃B:Nat,B=6000:=⟨_,rfl⟩
 have hA:bl (ovA x.m (x.e-2*low))≤B:=Nat.le_trans (afm r2 (C:=3400) (by omega)) (by omega)
 have hq:bl (rq false (sqA x.m x.e low) 4 md)≤B+1:=zy.2 (Nat.lt_of_le_of_lt aY3 (by
  have:=zy.1 hA
  rw[Nat.pow_succ]
  have h1:0<2^B:=Nat.pow_pos (by omega)
  generalize 2^B=Z at*
  omega))
 omega
theorem aep(s:SpV)(low:Int)(hs:s.ok=true)(hn:s.lo.s=false)(hlo: -200≤low∧low≤200):Con Tryz.prog 34 false [.ag [.v (.bool (s).lo.s),.sl (lim (s).lo.m).length (qb (lim (s).lo.m)),.v (.int .i64 (s).lo.e),.v (.bool (s).hi.s),.sl (lim (s).hi.m).length (qb (lim (s).hi.m)),.v (.int .i64 (s).hi.e)],.v (.int .i64 low)] [] (isA (.tu [.ag [.v (.bool ((zF s low).tel).lo.s),.sl (lim ((zF s low).tel).lo.m).length (qb (lim ((zF s low).tel).lo.m)),.v (.int .i64 ((zF s low).tel).lo.e),.v (.bool ((zF s low).tel).hi.s),.sl (lim ((zF s low).tel).hi.m).length (qb (lim ((zF s low).tel).hi.m)),.v (.int .i64 ((zF s low).tel).hi.e)],.v (.bool (zF s low).fit)])):=by
 refine Con.frzA ?_
 have cf:=jQ low
 rw[decide_eq_true hlo.1,decide_eq_true hlo.2]at cf
 obtain⟨-, -,o1,o2⟩:=zY hs
 have r1:=zz o1
 have r2:=zz o2
 have c1:=aaw s.lo.s s.lo.m s.lo.e low 3 (by omega) (by omega) (by omega)
 have c2:=aaw s.hi.s s.hi.m s.hi.e low 2 (by omega) (by omega) (by omega)
 have b1:=aEM (md:=3) o1 hlo
 have b2:=aEM (md:=2) o2 hlo
 have ci:=Qp (zF s low) ⟨b1.mono (by omega) (by omega),b2.mono (by omega) (by omega)⟩
 change Con _ _ _ _ _ (isA (.tu [.ag [.v (.bool (rtE s.lo low 3).s),.sl (lim (rtE s.lo low 3).m).length (qb (lim (rtE s.lo low 3).m)),.v (.int .i64 (rtE s.lo low 3).e)],_]))at c1
 change Con _ _ _ _ _ (isA (.tu [.ag [.v (.bool (rtE s.hi low 2).s),.sl (lim (rtE s.hi low 2).m).length (qb (lim (rtE s.hi low 2).m)),.v (.int .i64 (rtE s.hi low 2).e)],_]))at c2
 rw[hn]at c1
 generalize (zF s low).tel=z at*
 generalize (zF s low).fit=f at*
 unfold zF at ci
 generalize rtE s.lo low 3=x at*
 generalize rtE s.hi low 2=y at*
 refine Con.of_w (rs:=[.cell 4 51,.tmp 5]) Tryz.func34 rfl Tryz.ntmps34 rfl ?_
 simp(disch:=omega)only[go_sem]
 refine qi (Jm s hs) ?_
 simp(disch:=omega)only[go_sem]
 refine qi (cf) ?_
 simp(disch:=omega)only[go_sem]
 simp(disch:=omega)only[go_sem,hn]
 refine qa (zh false s.lo.m s.lo.e) ?_
 simp(disch:=omega)only[go_sem]
 refine qa (c1) ?_
 simp(disch:=omega)only[go_sem]
 refine qa (zh s.hi.s s.hi.m s.hi.e) ?_
 simp(disch:=omega)only[go_sem]
 refine qa (c2) ?_
 simp(disch:=omega)only[go_sem]
 refine qa (ci) ?_
 simp(disch:=omega)only[go_sem]
 exact qk
theorem Xd(a:IvV)(low:Int)(ha:arB a)(h:(ivB a&&(decide (-200≤low)&&decide (low≤200))&& !a.lo.s)=false):Con Tryz.prog 34 false [.ag [.v (.bool (a).lo.s),.sl (a).lo.xs.length (qb (a).lo.xs),.v (.int .i64 (a).lo.e),.v (.bool (a).hi.s),.sl (a).hi.xs.length (qb (a).hi.xs),.v (.int .i64 (a).hi.e)],.v (.int .i64 low)] [] (isA (.tu [.ag [.v (.bool (sp0).lo.s),.sl (lim (sp0).lo.m).length (qb (lim (sp0).lo.m)),.v (.int .i64 (sp0).lo.e),.v (.bool (sp0).hi.s),.sl (lim (sp0).hi.m).length (qb (lim (sp0).hi.m)),.v (.int .i64 (sp0).hi.e)],.v (.bool false)])):=by
 refine Con.frzA ?_
 have ca:=Xe a ha.1 ha.2
 have cf:=jQ low
 refine Con.of_w (rs:=[.cell 4 51,.tmp 5]) Tryz.func34 rfl Tryz.ntmps34 rfl ?_
 simp(disch:=omega)only[go_sem]
 cases hab:ivB a
 ·rw[hab]at ca
  refine qi (ca) ?_
  simp(disch:=omega)only[go_sem]
  exact qk (hp:=by simp(disch:=omega)only[go_sem,sp0,ex0,qm,List.length_nil,ze])
 rw[hab]at ca
 cases hf:(decide (-200≤low)&&decide (low≤200))
 ·rw[hf]at cf
  refine qi (ca) ?_
  simp(disch:=omega)only[go_sem]
  refine qi (cf) ?_
  simp(disch:=omega)only[go_sem]
  exact qk (hp:=by simp(disch:=omega)only[go_sem,sp0,ex0,qm,List.length_nil,ze])
 rw[hf]at cf
 have hs:a.lo.s=true:=by
  rw[hab,hf,Bool.true_and,Bool.true_and]at h
  cases hx:a.lo.s
  ·rw[hx]at h;cases h
  ·rfl
 refine qi (ca) ?_
 simp(disch:=omega)only[go_sem]
 refine qi (cf) ?_
 simp(disch:=omega)only[go_sem]
 simp(disch:=omega)only[go_sem,hs]
 exact qk (hp:=by simp(disch:=omega)only[go_sem,sp0,ex0,qm,List.length_nil,ze])
end Go.Ab
namespace Go.Ab
open Go Go.Proofs
theorem ao9{s t:SpV}{low:Int}(hs:s.ok=true)(ht:t.ok=true)(h0:t.hi.m≠0)(hlo: -200≤low){x:ExV}(hx:x=s.lo∨x=s.hi):∃N D:Int,0<D∧(s.over t low).eK 200∧inS 200 (s.over t low) N D∧N*t.hi.val 3000=(x.val 3000*p2 200)*D:=by
 obtain⟨es, -,o1,o2⟩:=zY hs
 obtain⟨et, -,q1,q2⟩:=zY ht
 have el:∀mode,eK 200 (q5 (fun x y=>x.over y low mode) s t):=fun mode x hx=>by
  simp only[q5,List.mem_cons,List.not_mem_nil,or_false]at hx
  rcases hx with rfl|rfl|rfl|rfl<;>(show-((200:Nat):Int)≤low;omega)
 have ex: -((3000:Nat):Int)≤x.e:=by rcases hx with rfl|rfl;exact es.1;exact es.2
 have m3:(s.over t low).lo.val 200≤(x.over t.hi low 3).val 200:=(zU (el 3)).1 _ (by rcases hx with rfl|rfl<;>simp[q5])
 have m2:(x.over t.hi low 2).val 200≤(s.over t low).hi.val 200:=(jt (el 2)).1 _ (by rcases hx with rfl|rfl<;>simp[q5])
 have eq:(s.over t low).eK 200:=⟨(zU (el 3)).2,(jt (el 2)).2⟩
 have hv:t.hi.val 3000=sv t.hi.s t.hi.m*p2 (t.hi.e+(3000:Nat)).toNat:=rfl
 have hp:=QV (t.hi.e+(3000:Nat)).toNat
 have hp3:=QV 3000
 have ept:SpV.eK 3000 ⟨t.hi,t.hi⟩:=⟨et.2,et.2⟩
 have e32:p2 (3000+200)=p2 3000*p2 200:=yN _ _
 obtain⟨d1,d2⟩:=aBn (x:=x) (y:=t.hi) (low:=low) (Kx:=3000) (Ky:=3000) (Kz:=200) h0 ex et.2 (by omega)
 cases hsg:t.hi.s
 ·have hpos:0<t.hi.val 3000:=by
   rw[hv,hsg]
   refine Int.mul_pos ?_ hp
   unfold sv;simp;omega
  obtain⟨a,b⟩:=d1 hsg
  rw[Int.mul_assoc]at a b
  have hD:0<t.hi.val 3000*p2 3000:=Int.mul_pos hpos hp3
  have hq:inS 200 (s.over t low) (x.val 3000*p2 (3000+200)) (t.hi.val 3000*p2 3000):=⟨Int.le_trans (Int.mul_le_mul_of_nonneg_right m3 (Int.le_of_lt hD)) a,Int.le_trans b (Int.mul_le_mul_of_nonneg_right m2 (Int.le_of_lt hD))⟩
  exact⟨_,_,hD,eq,hq,by rw[e32];grind⟩
 ·have hneg:t.hi.val 3000<0:=by
   rw[hv,hsg]
   refine Int.mul_neg_of_neg_of_pos ?_ hp
   unfold sv;simp;omega
  obtain⟨a,b⟩:=d2 hsg
  rw[Int.mul_assoc]at a b
  have hD0:t.hi.val 3000*p2 3000<0:=Int.mul_neg_of_neg_of_pos hneg hp3
  have hD:0< -(t.hi.val 3000*p2 3000):=by omega
  have hq:inS 200 (s.over t low) (-(x.val 3000*p2 (3000+200))) (-(t.hi.val 3000*p2 3000)):=by
   constructor
   ·refine Int.le_trans (Int.mul_le_mul_of_nonneg_right m3 (Int.le_of_lt hD)) ?_
    rw[Int.mul_neg];omega
   ·refine Int.le_trans ?_ (Int.mul_le_mul_of_nonneg_right m2 (Int.le_of_lt hD))
    rw[Int.mul_neg ((x.over t.hi low 2).val 200)];omega
  exact⟨_,_,hD,eq,hq,by rw[e32];grind⟩
theorem apN{p:SpV}{x:ExV}{D:Int}(hD:0<D)(hp:p.ok=true)(hx:x.ok=true)(h:inS 3200 p ((x.val 3000*p2 200)*D) D):Xm p x=true:=by
 have es:=(zY hp).1
 have eb:=(zz hx).1.1
 have e1:x.val (3000+200)=x.val 3000*p2 200:=aku eb
 obtain⟨a,b⟩:=h
 have a':=Int.le_of_mul_le_mul_right a hD
 have b':=Int.le_of_mul_le_mul_right b hD
 rw[←e1]at a' b'
 unfold Xm
 rw[decide_eq_true ((Qw (K:=3000) (j:=200) es.1 eb).2 a'),decide_eq_true ((Qw (K:=3000) (j:=200) eb es.2).2 b')];rfl
theorem aoY{x:ExV}(hx:x.ok=true)(hs:x.s=false){low:Int}(hl: -3000≤low∧low≤3000):(rtE x low 3).val 3000*(rtE x low 3).val 3000≤x.val (3000+3000)∧x.val (3000+3000)≤(rtE x low 2).val 3000*(rtE x low 2).val 3000∧0≤(rtE x low 3).val 3000∧0≤(rtE x low 2).val 3000:=by
 have r1:=(zz hx).1
 obtain⟨C,hC,hm1,hm2⟩:=aNO 3000 (m:=x.m) (e:=x.e) (low:=low) (by omega) (by omega)
 have hxv:x.val (3000+3000)=dv (3000+3000) false x.m x.e:=by unfold ExV.val;rw[hs]
 have vv:∀md,(rtE x low md).val 3000=dv 3000 false (rq false (sqA x.m x.e low) 4 md) low:=fun md=>rfl
 have hpos:∀q:Nat,0≤dv 3000 false q low:=fun q=>by
  unfold dv sv
  rw[if_neg (by simp)]
  exact Int.mul_nonneg (by omega) (Int.le_of_lt (Int.pow_pos (by omega)))
 refine⟨?_,?_,by rw[vv];exact hpos _,by rw[vv];exact hpos _⟩
 all_goals
  rw[vv,hxv,hm1,hm2]
  have hd:rq false (sqA x.m x.e low) 4 3=sqA x.m x.e low/4:=aeS (sqA x.m x.e low) 4
  have hU:=aN2 (sqA x.m x.e low) 4
  obtain⟨f1',f2', -⟩:=Zz (ovA x.m (x.e-2*low)) (2^(-(x.e-2*low)).toNat)
  obtain⟨g1,g2⟩:=aNL (A:=ovA x.m (x.e-2*low)) (S:=2^(-(x.e-2*low)).toNat) (Nat.pow_pos (by omega))
  have hst':stR (ovA x.m (x.e-2*low)) (2^(-(x.e-2*low)).toNat)=sqA x.m x.e low:=rfl
  rw[hst']at f1' f2'
  rw[hd,f1']at hU
 ·rw[hd,f1']
  exact Int.mul_le_mul_of_nonneg_right (Int.ofNat_le.2 g1) (Int.le_of_lt hC)
 ·rw[hU]
  refine Int.mul_le_mul_of_nonneg_right (Int.ofNat_le.2 ?_) (Int.le_of_lt hC)
  split
  ·rename_i h;exact Nat.le_of_eq (f2'.1 h).symm
  ·exact Nat.le_of_lt g2
theorem aJT{x y:ExV}{low:Int}{K:Nat}(h0:y.m≠0):(x.over y low 3).val K≤(x.over y low 2).val K:=by
 show dv K ((x.s != y.s)&&decide (ovQ (x.s != y.s) x.m x.e y.m y.e low 3≠0)) (ovQ (x.s != y.s) x.m x.e y.m y.e low 3) low≤dv K ((x.s != y.s)&&decide (ovQ (x.s != y.s) x.m x.e y.m y.e low 2≠0)) (ovQ (x.s != y.s) x.m x.e y.m y.e low 2) low
 rw[afb,afb]
 unfold ovQ
 have hb:0<ovA y.m (-(x.e-y.e-low)):=Nat.mul_pos (Nat.pos_of_ne_zero h0) (Nat.pow_pos (by omega))
 obtain⟨h1,h2,h3,h4⟩:=aoV (x.s != y.s) (ovA x.m (x.e-y.e-low)) (ovA y.m (-(x.e-y.e-low))) hb
 generalize ovA x.m (x.e-y.e-low)=a at*
 generalize ovA y.m (-(x.e-y.e-low))=b at*
 have hp:(0:Int)≤2^(low+(K:Int)).toNat:=Int.le_of_lt (QV _)
 unfold dv
 refine Int.mul_le_mul_of_nonneg_right ?_ hp
 generalize (x.s != y.s)=sg at*
 cases sg
 ·have:=Nat.le_of_mul_le_mul_right (Nat.le_trans (h1 rfl) (h3 rfl)) hb
  unfold sv;simp;omega
 ·have:=Nat.le_of_mul_le_mul_right (Nat.le_trans (h4 rfl) (h2 rfl)) hb
  unfold sv;simp;omega
theorem aBm{s t:SpV}{low:Int}(h0:t.lo.m≠0)(hlo: -200≤low):(s.over t low).lo.val 3000≤(s.over t low).hi.val 3000:=by
 have el:∀mode,eK 3000 (q5 (fun x y=>x.over y low mode) s t):=fun mode x hx=>by
  simp only[q5,List.mem_cons,List.not_mem_nil,or_false]at hx
  rcases hx with rfl|rfl|rfl|rfl<;>(show-((3000:Nat):Int)≤low;omega)
 have m3:(s.over t low).lo.val 3000≤(s.lo.over t.lo low 3).val 3000:=(zU (el 3)).1 _ (by simp[q5])
 have m2:(s.lo.over t.lo low 2).val 3000≤(s.over t low).hi.val 3000:=(jt (el 2)).1 _ (by simp[q5])
 exact Int.le_trans m3 (Int.le_trans (aJT h0) m2)
theorem aLL{s t:SpV}{low:Int}(hs:s.ok=true)(ht:t.ok=true)(h0:Xm t ex0=false)(hlo: -200≤low)(hf:(s.over t low).fit=true):
  SpV.ok ⟨t.hi,t.hi⟩=true∧(s.over t low).tel.ok=true∧((s.over t low).tel.times ⟨t.hi,t.hi⟩).tel.ok=true∧(((s.over t low).tel.times ⟨t.hi,t.hi⟩).fit=true→Xm ((s.over t low).tel.times ⟨t.hi,t.hi⟩).tel s.lo=true∧Xm ((s.over t low).tel.times ⟨t.hi,t.hi⟩).tel s.hi=true):=by
 obtain⟨m1,m2⟩:=apd ht h0
 obtain⟨N,D,hD,eq,hi1,e1⟩:=ao9 hs ht m2 hlo (x:=s.lo) (.inl rfl)
 obtain⟨N',D',hD', -,hi2,e2⟩:=ao9 hs ht m2 hlo (x:=s.hi) (.inr rfl)
 obtain⟨-, -,os1,os2⟩:=zY hs
 obtain⟨et, -,ot1,ot2⟩:=zY ht
 have eq3:(s.over t low).eK 3000:=⟨by have:=eq.1;omega,by have:=eq.2;omega⟩
 have ept:SpV.eK 3000 ⟨t.hi,t.hi⟩:=⟨et.2,et.2⟩
 have oq:=y8 (K:=3000) (Nat.le_refl _) eq3 (aBm m1 hlo)
 have hi1:=(YN eq).2 hi1
 have hi2:=(YN eq).2 hi2
 have eqc:=SpV.can_eK eq
 have opt:SpV.ok ⟨t.hi,t.hi⟩=true:=by
  show(t.hi.ok&&(t.hi.ok&&decide (t.hi.val 3000≤t.hi.val 3000)))=true
  rw[ot2,decide_eq_true (Int.le_refl _)];rfl
 rw[show(s.over t low).tel=(s.over t low).can from if_pos hf]at oq ⊢
 generalize (s.over t low).can=q at*
 have h1:=aak eqc ept hD (show(0:Int)<1 by omega) hi1 (aEZ (K:=3000) (x:=t.hi) (D:=1))
 have h2:=aak eqc ept hD' (show(0:Int)<1 by omega) hi2 (aEZ (K:=3000) (x:=t.hi) (D:=1))
 have ep:=SpV.times_eK eqc ept
 have ho:=Xp eqc ept
 rw[show t.hi.val 3000*1=t.hi.val 3000 from Int.mul_one _,e1,Int.mul_one]at h1
 rw[show t.hi.val 3000*1=t.hi.val 3000 from Int.mul_one _,e2,Int.mul_one]at h2
 generalize hpp:q.times ⟨t.hi,t.hi⟩=p at*
 have op:p.tel.ok=true:=y8 (K:=200+3000) (by omega) ep ho
 refine⟨opt,oq,op,fun hf=>?_⟩
 have e:p.tel=p.can:=if_pos hf
 exact⟨apN hD op os1 (by rw[e];exact(YN ep).2 h1),apN hD' op os2 (by rw[e];exact(YN ep).2 h2)⟩
theorem aZc{x:ExV}(hx:x.ok=true)(h:0≤x.val 3000):x.s=false:=by
 cases hs:x.s
 ·rfl
 ·exfalso
  have hm:x.m≠0:=fun h0=>by rw[((zz hx).2.2.2.1 h0).1]at hs;cases hs
  have hv:x.val 3000=sv x.s x.m*p2 (x.e+(3000:Nat)).toNat:=rfl
  rw[hs]at hv
  have:x.val 3000<0:=by
   rw[hv]
   refine Int.mul_neg_of_neg_of_pos ?_ (QV _)
   unfold sv;simp;omega
  omega
theorem aAR{a b:Int}(ha:0≤a)(hb:0≤b)(h:a*a≤b*b):a≤b:=by
 rcases Int.lt_or_le b a with g|g
 ·exfalso
  have h1:b*b≤a*b:=Int.mul_le_mul_of_nonneg_right (Int.le_of_lt g) hb
  have h2:a*b<a*a:=Int.mul_lt_mul_of_pos_left g (by omega)
  omega
 ·exact g
theorem aA5{v:SpV}{low:Int}(hv:v.ok=true)(hn:v.lo.s=false)(hlo: -200≤low∧low≤200)(hf:(zF v low).fit=true):
  (zF v low).tel.ok=true∧((zF v low).tel.times (zF v low).tel).tel.ok=true∧(((zF v low).tel.times (zF v low).tel).fit=true→(Xm ((zF v low).tel.times (zF v low).tel).tel v.lo&&Xm ((zF v low).tel.times (zF v low).tel).tel v.hi)=true):=by
 obtain⟨ev,hle,o1,o2⟩:=zY hv
 have hl0:0≤v.lo.val 3000:=by
  have:v.lo.val 3000=sv v.lo.s v.lo.m*p2 (v.lo.e+(3000:Nat)).toNat:=rfl
  rw[this,hn]
  exact Int.mul_nonneg (by unfold sv;simp) (Int.le_of_lt (QV _))
 have hn2:=aZc o2 (Int.le_trans hl0 hle)
 obtain⟨a1, -,a3, -⟩:=aoY o1 hn (low:=low) (by omega)
 obtain⟨-,b2, -,b4⟩:=aoY o2 hn2 (low:=low) (by omega)
 have hle6:=(Qw (K:=3000) (j:=3000) ev.1 ev.2).1 hle
 have er:(zF v low).eK 3000:=⟨by show-((3000:Nat):Int)≤low;omega,by show-((3000:Nat):Int)≤low;omega⟩
 have hord:(zF v low).lo.val 3000≤(zF v low).hi.val 3000:=aAR a3 b4 (Int.le_trans a1 (Int.le_trans hle6 b2))
 have or':=y8 (K:=3000) (Nat.le_refl _) er hord
 have erc:=SpV.can_eK er
 have vlo:(zF v low).can.lo.val 3000=(rtE v.lo low 3).val 3000:=yu er.1
 have vhi:(zF v low).can.hi.val 3000=(rtE v.hi low 2).val 3000:=yu er.2
 rw[←vlo]at a1
 rw[←vhi]at b2
 rw[show(zF v low).tel=(zF v low).can from if_pos hf]at or' ⊢
 generalize (zF v low).can=r at*
 have he:=Go.Ab.times_eK erc erc
 have l1:=(zU he).1 (r.lo.times r.lo) (by simp[q5])
 have m1:=(jt he).1 (r.hi.times r.hi) (by simp[q5])
 rw[Zr erc.1 erc.1]at l1
 rw[Zr erc.2 erc.2]at m1
 have ep:=SpV.times_eK erc erc
 have ho:=Xp erc erc
 have l2:(r.times r).lo.val (3000+3000)≤v.lo.val (3000+3000):=Int.le_trans l1 a1
 have m2:v.hi.val (3000+3000)≤(r.times r).hi.val (3000+3000):=Int.le_trans b2 m1
 generalize r.times r=p at*
 have op:p.tel.ok=true:=y8 (K:=3000+3000) (by omega) ep ho
 refine⟨or',op,fun hfp=>?_⟩
 obtain⟨et, -, -, -⟩:=zY op
 have e:p.tel=p.can:=if_pos hfp
 rw[e]at et ⊢
 have c1:p.can.lo.val (3000+3000)=p.lo.val (3000+3000):=yu ep.1
 have c2:p.can.hi.val (3000+3000)=p.hi.val (3000+3000):=yu ep.2
 rw[←c1]at l2
 rw[←c2]at m2
 have g1:=(Qw (K:=3000) (j:=3000) et.1 ev.1).2 l2
 have g2:=(Qw (K:=3000) (j:=3000) ev.2 et.2).2 m2
 unfold Xm
 rw[decide_eq_true g1,decide_eq_true (Int.le_trans hle g2),decide_eq_true (Int.le_trans g1 hle),decide_eq_true g2];rfl
set_option maxRecDepth 100000 in
theorem ajs(l:List UInt8)(hl:l.length≤9223372036854775807):Con Tryz.prog 5 true [.sl l.length (ql l)] [] (isA (.v (.bool true))):=by
 refine Con.of_w (rs:=[.tmp 2]) Tryz.func5 rfl Tryz.ntmps5 rfl ?_
 simp(disch:=omega)only[go_sem]
 refine q9 (Xf l hl) (by simp(disch:=omega)only[go_sem]) ?_
 rintro r hs ⟨rfl, -,⟨a,b,low,la,lb,hlow,rfl⟩⟩
 refine⟨by simp[qP],?_⟩
 simp(disch:=omega)only[go_sem]
 cases hB:(ivB a&&ivB b&&(decide (-200≤low)&&decide (low≤200)))
 refine qa (aaP a b low la lb hB) ?_
 simp(disch:=omega)only[go_sem]
 rotate_left
 simp only[Bool.and_eq_true,decide_eq_true_eq]at hB
 obtain⟨⟨hA,hBB⟩,hlo⟩:=hB
 obtain⟨s,rfl,hs⟩:=aKI hA
 obtain⟨t,rfl,ht⟩:=aKI hBB
 dsimp only[SpV.iv,ExV.dyv]
 rcases Bool.eq_false_or_eq_true (Xm t ex0)with h0|h0
 refine qa (aj4 s t low hs ht h0 hlo) ?_
 simp(disch:=omega)only[go_sem]
 rotate_left
 have cD:=aj3 s t low hs ht h0 hlo
 obtain⟨-, -,os1,os2⟩:=zY hs
 have hdh:=aLL hs ht h0 hlo.1
 generalize (s.over t low).fit=f at*
 generalize (s.over t low).tel=q at*
 cases f
 refine qa (cD) ?_
 simp(disch:=omega)only[go_sem]
 rotate_left
 obtain⟨opt,oq,op,hh⟩:=hdh rfl
 have cO:=aqQ t.hi t.hi opt
 have cM:=Yh q ⟨t.hi,t.hi⟩ oq opt
 generalize (q.times ⟨t.hi,t.hi⟩).fit=f1 at*
 generalize (q.times ⟨t.hi,t.hi⟩).tel=p at*
 refine qa (cD) ?_
 simp(disch:=omega)only[go_sem]
 refine qa (cO) ?_
 simp(disch:=omega)only[go_sem]
 refine qa (cM) ?_
 simp(disch:=omega)only[go_sem]
 cases f1
 simp(disch:=omega)only[go_sem]
 rotate_left
 have ch1:=Yi p s.lo op os1
 have ch2:=Yi p s.hi op os2
 rw[(hh rfl).1]at ch1
 rw[(hh rfl).2]at ch2
 simp(disch:=omega)only[go_sem]
 refine qi (ch1) ?_
 simp(disch:=omega)only[go_sem]
 refine qi (ch2) ?_
 simp(disch:=omega)only[go_sem]
 all_goals
  refine q9 (JE l hl) (by simp(disch:=omega)only[go_sem]) ?_
  rintro r hs ⟨rfl, -,⟨v,lw,lv,hlw,rfl⟩⟩
  refine⟨by simp[qP],?_⟩
  simp(disch:=omega)only[go_sem]
 all_goals
  cases hR:(ivB v&&(decide (-200≤lw)&&decide (lw≤200))&& !v.lo.s)
  ·refine qa (Xd v lw lv hR) ?_
   simp(disch:=omega)only[go_sem]
   refine qi (aaN) ?_
   simp(disch:=omega)only[go_sem]
   exact qA
  simp only[Bool.and_eq_true,decide_eq_true_eq,Bool.not_eq_true']at hR
  obtain⟨⟨hV,hlw2⟩,hn⟩:=hR
  obtain⟨w,rfl,hw⟩:=aKI hV
  dsimp only[SpV.iv,ExV.dyv]at hn ⊢
  have cR:=aep w lw hw hn hlw2
  have hrh:=aA5 hw hn hlw2
  generalize (zF w lw).fit=f3 at*
  generalize (zF w lw).tel=ro at*
  cases f3
  ·refine qa (cR) ?_
   simp(disch:=omega)only[go_sem]
   refine qi (aaN) ?_
   simp(disch:=omega)only[go_sem]
   exact qA
  obtain⟨oro,opp,hin⟩:=hrh rfl
  have cM2:=Yh ro ro oro oro
  generalize (ro.times ro).fit=f4 at*
  generalize (ro.times ro).tel=pp at*
  refine qa (cR) ?_
  simp(disch:=omega)only[go_sem]
  refine qa (cM2) ?_
  simp(disch:=omega)only[go_sem]
  cases f4
  ·simp(disch:=omega)only[go_sem]
   exact qA
  have cW:=Xc w pp hw opp
  rw[hin rfl]at cW
  simp(disch:=omega)only[go_sem]
  refine qi (cW) ?_
  simp(disch:=omega)only[go_sem]
  exact qA
end Go.Ab
namespace Go.Proofs.YtcobffkepgogiaaGreatDoor
open Go.ChangeShapes Go.WideShapes Go.ChangeAt Go.RowKit Go.Ab
theorem own:ownKnob Tryz.prog.godebug=none:=by kernel_rfl
theorem apz:laidOutB Tryz.prog=true:=by kernel_rfl
theorem aoC:Tryz.prog.globalNamed "math/bits.deBruijn64tab" =some 1:=by kernel_rfl
theorem aIQ:(Tryz.prog.globals[1]?).map (·.type)=some 262:=by kernel_rfl
theorem aIP:Tryz.prog.underlying 262=some (.array 64 5):=by kernel_rfl
theorem aIT:Tryz.prog.underlying 5=some (.int .u8):=by kernel_rfl
theorem aIU:Tryz.prog.cellsOf 5=1:=by kernel_rfl
theorem aIR:Tryz.prog.cellsOf 262=64:=by kernel_rfl
noncomputable def yF:List (String×DataW Unit):=[("math/bits.deBruijn32tab",Rows.laid_math_bits_deBruijn32tab),("math/bits.deBruijn64tab",Rows.laid_math_bits_deBruijn64tab)]
theorem aIS{W:World}(h:laidMetH Tryz.prog yF W):Gd W:=by
 have h':laidMet Tryz.prog yF W:=h
 have h2:laidMet Tryz.prog [("math/bits.deBruijn64tab",Lib.tabData .u8 (Lib.deBruijn64tab.map Int.ofNat))] W:=laidMet.tail h'
 have hT:=Lib.tabIs_of_head aoC aIQ aIP aIT aIU aIR h2
 intro g l hg
 unfold glb at hg
 split at hg
 ·rename_i e
  subst e
  cases hg
  have hc:∀i,i<Lib.deBruijn64tab.length→W.cell? ⟨1,i,none⟩=some (.int .u8 ((Lib.deBruijn64tab.getD i 0:Nat):Int)):=fun i hi=>by
   have:=hT.cell aoC i (by simpa using hi)
   rw[this]
   simp[List.getD,hi]
  exact⟨afi (hc 0 (by decide)),hc⟩
 ·cases hg
noncomputable def aah(os:Os):World:=
 let w0:=World.holding Tryz.prog os ⟨#[],#[],[]⟩
 {w0 with heap:=(w0.heap.modify 1 fun
   | .cells _ t frozen=>.cells (Lib.deBruijn64tab.map fun z=>Value.int .u8 (Int.ofNat z)).toArray t frozen
   |o=>o).modify 0 fun
   | .cells _ t frozen=>.cells (Lib.deBruijn32tab.map fun z=>Value.int .u8 (Int.ofNat z)).toArray t frozen
   |o=>o}
theorem YL(os:Os)(args:Array Value):laidMetH Tryz.prog yF ((aah os).forCall (fun _ _=>0) ⟨#[],args,[]⟩).memory:=
 laidMetH_of_parts (laidMet_of_run' 8 (by kernel_rfl) (by kernel_rfl)) (by kernel_rfl)
end Go.Proofs.YtcobffkepgogiaaGreatDoor
