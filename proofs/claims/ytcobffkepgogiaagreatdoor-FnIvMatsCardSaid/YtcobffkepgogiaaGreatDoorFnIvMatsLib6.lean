/- What the proof of this claim stands on: the walks of the functions and the plain laws, part 6. -/
import Derived.Test.YtcobffkepgogiaaGreatDoorFnIvMatsLib5
import Derived.Test.YtcobffkepgogiaaGreatDoorRows
import Derived.Test.YtcobffkepgogiaaGreatDoorCards
import Derived.Test.YtcobffkepgogiaaGreatDoorTie
import Derived.Handed
import Derived.ChangeSame
import Derived.JoinedOf
import Derived.RowKit
import Derived.WalkKit
import Derived.ProofKit
import Derived.OpenShut
import Derived.LaidLaws
import Derived.LaidHandle
import Derived.SevenTiedAt
import Derived.Stop.LaidErr
import Derived.Lib.LaidTab
set_option linter.unusedVariables false
set_option linter.unusedSimpArgs false
namespace Go.Ab
open Go Go.Proofs
/-! ### Rational points of intervals-/
theorem aaf{K:Nat}:∀(l:List ExV) (m:ExV), -(K:Int)≤m.e→eK K l→(l.foldl zQ m).val K≤m.val K∧(∀x∈l,(l.foldl zQ m).val K≤x.val K)∧ -(K:Int)≤(l.foldl zQ m).e
 | [],m,hm,_=>⟨Int.le_refl _,(fun x hx=>by cases hx),hm⟩
 |y::l,m,hm,hl=>by
  have hy:=hl y (List.mem_cons_self ..)
  have hl':eK K l:=fun x hx=>hl x (List.mem_cons_of_mem _ hx)
  have h1:(zQ m y).val K≤m.val K∧(zQ m y).val K≤y.val K∧ -(K:Int)≤(zQ m y).e:=by
   rcases Int.lt_or_le (y.val K) (m.val K)with g|g
   ·have e:zQ m y=y:=by
     unfold zQ
     rw[Jr hy hm,if_pos (by unfold zr;rw[if_pos g];decide)]
    rw[e];exact⟨Int.le_of_lt g,Int.le_refl _,hy⟩
   ·have e:zQ m y=m:=by
     unfold zQ
     rw[Jr hy hm,if_neg (by unfold zr;rw[if_neg (by omega)];split<;>omega)]
    rw[e];exact⟨Int.le_refl _,g,hm⟩
  obtain⟨g1,g2,g3⟩:=aaf l (zQ m y) h1.2.2 hl'
  refine⟨Int.le_trans g1 h1.1,fun x hx=>?_,g3⟩
  rcases List.mem_cons.1 hx with rfl|hx
  ·exact Int.le_trans g1 h1.2.1
  ·exact g2 x hx
theorem ae7{K:Nat}:∀(l:List ExV) (m:ExV), -(K:Int)≤m.e→eK K l→m.val K≤(l.foldl jl m).val K∧(∀x∈l,x.val K≤(l.foldl jl m).val K)∧ -(K:Int)≤(l.foldl jl m).e
 | [],m,hm,_=>⟨Int.le_refl _,(fun x hx=>by cases hx),hm⟩
 |y::l,m,hm,hl=>by
  have hy:=hl y (List.mem_cons_self ..)
  have hl':eK K l:=fun x hx=>hl x (List.mem_cons_of_mem _ hx)
  have h1:m.val K≤(jl m y).val K∧y.val K≤(jl m y).val K∧ -(K:Int)≤(jl m y).e:=by
   rcases Int.lt_or_le (m.val K) (y.val K)with g|g
   ·have e:jl m y=y:=by
     unfold jl
     rw[Jr hy hm,if_pos (by unfold zr;rw[if_neg (by omega),if_pos g];decide)]
    rw[e];exact⟨Int.le_of_lt g,Int.le_refl _,hy⟩
   ·have e:jl m y=m:=by
     unfold jl
     rw[Jr hy hm,if_neg (by unfold zr;split<;>(try split)<;>omega)]
    rw[e];exact⟨Int.le_refl _,g,hm⟩
  obtain⟨g1,g2,g3⟩:=ae7 l (jl m y) h1.2.2 hl'
  refine⟨Int.le_trans h1.1 g1,fun x hx=>?_,g3⟩
  rcases List.mem_cons.1 hx with rfl|hx
  ·exact Int.le_trans h1.2.1 g1
  ·exact g2 x hx
theorem J1{K:Nat}{l:List ExV}(h:eK K l):(∀x∈l,(jg l).val K≤x.val K)∧ -(K:Int)≤(jg l).e:=by
 cases l with
 |nil=>exact⟨(fun x hx=>by cases hx),by show-(K:Int)≤0;omega⟩
 |cons y l=>
  obtain⟨g1,g2,g3⟩:=aaf (K:=K) l y (h y (List.mem_cons_self ..)) fun x hx=>h x (List.mem_cons_of_mem _ hx)
  refine⟨fun x hx=>?_,g3⟩
  rcases List.mem_cons.1 hx with rfl|hx
  ·exact g1
  ·exact g2 x hx
theorem aad{K:Nat}{l:List ExV}(h:eK K l):(∀x∈l,x.val K≤(zp l).val K)∧ -(K:Int)≤(zp l).e:=by
 cases l with
 |nil=>exact⟨(fun x hx=>by cases hx),by show-(K:Int)≤0;omega⟩
 |cons y l=>
  obtain⟨g1,g2,g3⟩:=ae7 (K:=K) l y (h y (List.mem_cons_self ..)) fun x hx=>h x (List.mem_cons_of_mem _ hx)
  refine⟨fun x hx=>?_,g3⟩
  rcases List.mem_cons.1 hx with rfl|hx
  ·exact g1
  ·exact g2 x hx
def SpV.eK(K:Nat)(s:SpV):Prop:= -(K:Int)≤s.lo.e∧ -(K:Int)≤s.hi.e
def inS(K:Nat)(s:SpV)(N D:Int):Prop:=s.lo.val K*D≤N∧N≤s.hi.val K*D
theorem times_eK{K K':Nat}{s t:SpV}(hs:s.eK K)(ht:t.eK K'):eK (K+K') (zx ExV.times s t):=fun x hx=>by
 obtain⟨a,b⟩:=hs
 obtain⟨c,d⟩:=ht
 simp only[zx,List.mem_cons,List.not_mem_nil,or_false]at hx
 rcases hx with rfl|rfl|rfl|rfl
 ·show _≤s.lo.e+t.lo.e;omega
 ·show _≤s.lo.e+t.hi.e;omega
 ·show _≤s.hi.e+t.lo.e;omega
 ·show _≤s.hi.e+t.hi.e;omega
theorem SpV.times_eK{K K':Nat}{s t:SpV}(hs:s.eK K)(ht:t.eK K'):(s.times t).eK (K+K'):=⟨(J1 (Go.Ab.times_eK hs ht)).2,(aad (Go.Ab.times_eK hs ht)).2⟩
theorem ap0{K K':Nat}{s t:SpV}{N D N' D':Int}(hs:s.eK K)(ht:t.eK K')(hD:0<D)(hD':0<D')(h:inS K s N D)(h':inS K' t N' D'):inS (K+K') (s.times t) (N*N') (D*D'):=by
 have he:=Go.Ab.times_eK hs ht
 obtain⟨l1, -⟩:=J1 he
 obtain⟨m1, -⟩:=aad he
 have hDD:0≤D*D':=Int.le_of_lt (Int.mul_pos hD hD')
 obtain⟨a,b⟩:=hs
 obtain⟨c,d⟩:=ht
 have f:∀x y:ExV, -(K:Int)≤x.e→ -(K':Int)≤y.e→(x.times y).val (K+K')*(D*D')=(x.val K*D)*(y.val K'*D'):=fun x y hx hy=>by
  rw[Xp hx hy];grind
 have L:∀x∈zx ExV.times s t,(jg (zx ExV.times s t)).val (K+K')*(D*D')≤x.val (K+K')*(D*D'):=fun x hx=>Int.mul_le_mul_of_nonneg_right (l1 x hx) hDD
 have M:∀x∈zx ExV.times s t,x.val (K+K')*(D*D')≤(zp (zx ExV.times s t)).val (K+K')*(D*D'):=fun x hx=>Int.mul_le_mul_of_nonneg_right (m1 x hx) hDD
 have i1:s.lo.times t.lo∈zx ExV.times s t:=by simp[zx]
 have i2:s.lo.times t.hi∈zx ExV.times s t:=by simp[zx]
 have i3:s.hi.times t.lo∈zx ExV.times s t:=by simp[zx]
 have i4:s.hi.times t.hi∈zx ExV.times s t:=by simp[zx]
 have L1:=L _ i1
 have L2:=L _ i2
 have L3:=L _ i3
 have L4:=L _ i4
 have M1:=M _ i1
 have M2:=M _ i2
 have M3:=M _ i3
 have M4:=M _ i4
 rw[f _ _ a c]at L1 M1
 rw[f _ _ a d]at L2 M2
 rw[f _ _ b c]at L3 M3
 rw[f _ _ b d]at L4 M4
 exact adT h.1 h.2 h'.1 h'.2 L1 L2 L3 L4 M1 M2 M3 M4
theorem SpV.plus_eK{K:Nat}{s t:SpV}(hs:s.eK K)(ht:t.eK K):(s.plus t).eK K:=⟨K1 hs.1 ht.1,K1 hs.2 ht.2⟩
theorem afh{K:Nat}{s t:SpV}{N N' D:Int}(hs:s.eK K)(ht:t.eK K)(h:inS K s N D)(h':inS K t N' D):inS K (s.plus t) (N+N') D:=by
 obtain⟨a,b⟩:=h
 obtain⟨c,d⟩:=h'
 constructor
 ·show(s.lo.plus t.lo).val K*D≤_
  rw[Qq hs.1 ht.1,Int.add_mul];omega
 ·show _≤(s.hi.plus t.hi).val K*D
  rw[Qq hs.2 ht.2,Int.add_mul];omega
theorem aLj{K:Nat}{s:SpV}{N D:Int}(hs:s.eK K):inS K s.can N D↔inS K s N D:=by
 unfold inS
 rw[show s.can.lo=s.lo.can from rfl,show s.can.hi=s.hi.can from rfl,Q6 hs.1,Q6 hs.2]
theorem aPz{K:Nat}{s:SpV}{N D:Int}(hD:0<D)(h:inS K s N D):s.lo.val K≤s.hi.val K:=Int.le_of_mul_le_mul_right (Int.le_trans h.1 h.2) hD
theorem aa3{K j:Nat}{x y:ExV}(hx: -(K:Int)≤x.e)(hy: -(K:Int)≤y.e):x.val K≤y.val K↔x.val (K+j)≤y.val (K+j):=by
 rw[aeQ hx,aeQ hy]
 have hp:(0:Int)<2^j:=aO1 j
 exact⟨fun h=>Int.mul_le_mul_of_nonneg_right h (Int.le_of_lt hp),fun h=>Int.le_of_mul_le_mul_right h hp⟩
theorem aoQ{K:Nat}{s:SpV}(hK:3000≤K)(hs:s.eK K)(h:s.lo.val K≤s.hi.val K):s.tel.ok=true:=by
 unfold SpV.tel
 split
 ·rename_i hf
  have hf:(s.lo.fit&&s.hi.fit)=true:=hf
  rw[Bool.and_eq_true]at hf
  have o1:=afu hf.1
  have o2:=afu hf.2
  show(s.lo.can.ok&&(s.hi.can.ok&&decide (s.lo.can.val 3000≤s.hi.can.val 3000)))=true
  rw[o1,o2,Bool.true_and,Bool.true_and]
  refine decide_eq_true ((aa3 (j:=K-3000) (zW o1).1.1 (zW o2).1.1).2 ?_)
  rw[show 3000+(K-3000)=K by omega,Q6 hs.1,Q6 hs.2]
  exact h
 ·decide+kernel
theorem Yv{s:SpV}(h:s.ok=true):s.eK 3000∧s.lo.val 3000≤s.hi.val 3000∧s.lo.ok=true∧s.hi.ok=true:=by
 have h:(s.lo.ok&&(s.hi.ok&&decide (s.lo.val 3000≤s.hi.val 3000)))=true:=h
 simp only[Bool.and_eq_true,decide_eq_true_eq]at h
 exact⟨⟨(zW h.1).1.1,(zW h.2.1).1.1⟩,h.2.2,h.1,h.2.1⟩
end Go.Ab
namespace Go.Ab
open Go Go.Proofs
/-! ### Matrices of intervals-/
structure imatV(n:Nat)(S:List SpV):Prop where
 n1:1≤n
 n4:n≤4
 len:S.length=n*n
 ok:∀s∈S,s.ok=true
theorem imatV.l16{n:Nat}{S:List SpV}(h:imatV n S):S.length≤16:=by rw[h.len];exact yn h.n4
theorem imatV.bd{n:Nat}{S:List SpV}(h:imatV n S):sbd (-3000) 4600 S:=fun s hs=>aJC (h.ok s hs)
def afd(k:Int)(M:List IvV):Bool:=(decide (1≤k)&&decide (k≤4))&&(decide ((M.length:Int)=k*k)&&M.all ivB)
theorem Qg(n:Int)(l:List IvV)(hl:l.length≤1000)(hx:∀v∈l,aa1 v):Con Tryz.prog 140 true [.ag [.v (.int .i64 n),.sl l.length (qm IvV.cs l)]] [] (isA (.v (.bool (afd n l)))):=by
 unfold afd
 cases h1:(decide (1≤n)&&decide (n≤4))
 ·rw[Bool.false_and]
  refine Con.of_w (rs:=[.tmp 2]) Tryz.func140 rfl Tryz.ntmps140 rfl ?_
  simp(disch:=omega)only[go_sem]
  refine qh (zn n 1 4) ?_
  simp(disch:=omega)only[go_sem]
  simp(disch:=omega)only[go_sem,h1]
  exact qu
 ·rw[Bool.true_and]
  have h1':1≤n∧n≤4:=by simpa using h1
  have hq:0≤n*n∧n*n≤16:=⟨Int.mul_nonneg (by omega) (by omega),Int.mul_le_mul h1'.2 h1'.2 (by omega) (by omega)⟩
  cases h2:decide ((l.length:Int)=n*n)
  ·rw[Bool.false_and]
   refine Con.of_w (rs:=[.tmp 2]) Tryz.func140 rfl Tryz.ntmps140 rfl ?_
   simp(disch:=omega)only[go_sem]
   refine qh (zn n 1 4) ?_
   simp(disch:=omega)only[go_sem]
   simp(disch:=omega)only[go_sem,h1,h2]
   exact qu
  ·rw[Bool.true_and]
   refine Con.of_w (rs:=[.tmp 2]) Tryz.func140 rfl Tryz.ntmps140 rfl ?_
   simp(disch:=omega)only[go_sem]
   refine qh (zn n 1 4) ?_
   simp(disch:=omega)only[go_sem]
   simp(disch:=omega)only[go_sem,h1,h2]
   refine qh (akg l hl hx) ?_
   simp(disch:=omega)only[go_sem]
   exact qu
theorem ZR(S:List SpV):qm IvV.cs (S.map SpV.iv)=qm SpV.cs S:=by unfold qm;rw[List.map_map];rfl
theorem ap2{k:Int}{M:List IvV}(h:afd k M=true):∃(n:Nat) (S:List SpV),k=n∧M=S.map SpV.iv∧imatV n S:=by
 simp only[afd,Bool.and_eq_true,decide_eq_true_eq,List.all_eq_true]at h
 obtain⟨⟨h1,h2⟩,h3,h4⟩:=h
 obtain⟨n,rfl⟩:=Int.eq_ofNat_of_zero_le (show 0≤k by omega)
 have hm:M=(M.map IvV.sp).map SpV.iv:=by
  rw[List.map_map]
  conv=>lhs;rw[←List.map_id M]
  refine List.map_congr_left fun v hv=>?_
  obtain⟨s,e, -⟩:=aPy (h4 v hv)
  show v=(IvV.sp v).iv
  rw[e]
  show s.iv=SpV.iv ⟨s.lo.dyv.ex,s.hi.dyv.ex⟩
  rw[ad5,ad5]
 refine⟨n,M.map IvV.sp,rfl,hm,by omega,by omega,?_,fun s hs=>?_⟩
 ·rw[List.length_map];exact_mod_cast h3
 ·obtain⟨v,hv,rfl⟩:=List.mem_map.1 hs
  have hb:=h4 v hv
  obtain⟨s,e,ho⟩:=aPy hb
  rw[e]
  show SpV.ok ⟨s.lo.dyv.ex,s.hi.dyv.ex⟩=true
  rw[ad5,ad5];exact ho
theorem ap4{n:Nat}{S:List SpV}(h:imatV n S):afd n (S.map SpV.iv)=true:=by
 unfold afd
 simp only[Bool.and_eq_true,decide_eq_true_eq,List.all_eq_true]
 refine⟨⟨by have:=h.n1;omega,by have:=h.n4;omega⟩,by rw[List.length_map,h.len,Int.natCast_mul],fun v hv=>?_⟩
 obtain⟨s,hs,rfl⟩:=List.mem_map.1 hv
 rw[aFv];exact h.ok s hs
theorem ap3{n:Nat}{S:List SpV}(h:imatV n S):∀v∈S.map SpV.iv,aa1 v:=fun v hv=>by
 obtain⟨s,hs,rfl⟩:=List.mem_map.1 hv
 exact apK (h.ok s hs)
theorem jJ(n:Nat)(S:List SpV)(h:imatV n S):Con Tryz.prog 140 true [.ag [.v (.int .i64 (n)),.sl (S).length (qm SpV.cs (S))]] [] (isA (.v (.bool true))):=by
 have c:=Qg n (S.map SpV.iv) (by rw[List.length_map];have:=h.l16;omega) (ap3 h)
 rw[ap4 h,ZR,List.length_map]at c
 exact c
set_option maxRecDepth 100000 in
theorem jB(n:Int)(l:List SpV)(hl:l.length≤1000):Con Tryz.prog 135 false [.ag [.v (.int .i64 (n)),.sl (l).length (qm SpV.cs (l))]] [] (isA (.ag [.v (.int .i64 (n)),.sl (l).length (qm SpV.cs (l))])):=by
 refine Con.frzA ?_
 refine Con.of_aw Tryz.func135 rfl Tryz.ntmps135 (by simp) (by simp) (by simp) (W.sound ?_)
 show @W Tryz.prog 25 ⟨_⟩ ⟨fun x σ=>@qR _ _ _ ⟨_⟩ _ ⟨_⟩ x σ⟩ _ _
 simp(disch:=omega)only[go_sem]
 refine qj (fun i:Nat=>[(10,.sl l.length (qm SpV.cs l)),(11,.v (.int .i64 l.length)),(12,.v (.int .i64 i)),(3,.pt 0 0),(2,.pt 2 0)])
  (fun i=>[(0,.own 0 [.v (.int .i64 n),.rf 1 0 i]),(1,.own 6 (qm SpV.cs (mpT l (id) i))),(2,.own 0 [.v (.int .i64 0),.v (.slice none 0 0)])]) (fun i=>i≤l.length) (fun i=>l.length-i) 0 (by omega)
  ((Le.ghostC 50000000 1 1 6 (zo:=0) (cs:=[.v (.int .i64 n),.v (.slice none 0 0)]) (by simp(disch:=omega)only[go_sem]) rfl (by simp(disch:=omega)only[go_sem])).trans (Le.lst [(0,50000000),(2,40000000)] _ _ rfl (by simp(disch:=omega)only[go_sem]) (by simp(disch:=omega)only[go_sem,jH,y6,List.set_cons_succ,List.set_cons_zero]))) ?_
 intro i hi
 simp(disch:=omega)only[go_sem]
 refine qe (fun h1=>?_) (fun h1=>?_)
 ·have hi2:i<l.length:=by omega
  have hci:=j7 hi2
  have hcut:=zz (zM (F:=id) hi)
  have hml:=zM (F:=id) hi
  have hs:=jI (F:=id) sp0 hi2
  generalize l.getD i sp0=x at*
  simp(disch:=omega)only[go_sem,h1,hci]
  refine⟨by omega,by omega,?_⟩
  refine qp rfl [⟨0,[],[]⟩,⟨1,[],[]⟩,⟨2,[1],[]⟩,⟨3,[1],[]⟩,⟨4,[1],[]⟩,⟨5,[],[]⟩,⟨6,[],[]⟩,⟨7,[],[]⟩] (by kernel_rfl) ?_
  simp(disch:=omega)only[go_sem]
  refine qa (Yf x) ?_
  simp(disch:=omega)only[go_sem]
  simp(disch:=omega)only[go_sem,hcut,yK]
  refine⟨⟨by rw[hml];exact Nat.le_refl _,by omega⟩,qb (i+1) [(1,230000000)] (by show i+1≤_;omega) (by show l.length-(i+1)<l.length-i;omega) rfl (by simp(disch:=omega)only[go_sem];try omega) (by simp(disch:=omega)only[go_sem,hs,id_eq])⟩
 ·simp(disch:=omega)only[go_sem,h1]
  obtain rfl:i=l.length:=by omega
  refine qg [(0,1)] [.own 6 (qm SpV.cs (mpT l (id) l.length))] [] [.ag [.v (.int .i64 n),.rf 0 0 l.length]] rfl (by simp(disch:=omega)only[go_sem]) (by simp(disch:=omega)only[go_sem]) (by simp) (by simp) ?_
  show qE _ 6 _=_
  simp(disch:=omega)only[go_sem,zb,yx,zz (l:=l.map (id)) (k:=l.length) (List.length_map ..),List.map_id,zz (l:=l) (k:=l.length) rfl]
def fN(n:Nat)(l:List SpV):Nat:=if l.all SpV.fit=true then n else 0
def fT(l:List SpV):List SpV:=if l.all SpV.fit=true then l.map SpV.can else []
theorem Q5(n:Nat)(l:List SpV)(hl:l.length≤1000)(hb:sbd (-400000) 400000 l):Con Tryz.prog 137 false [.ag [.v (.int .i64 (n)),.sl (l).length (qm SpV.cs (l))]] [] (isA (.tu [.ag [.v (.int .i64 (fN n l)),.sl (fT l).length (qm SpV.cs (fT l))],.v (.bool (l.all SpV.fit))])):=by
 have c:=aaF n l hl hb
 unfold fN fT
 cases h:l.all SpV.fit
 ·rw[h,if_neg (by simp)]at c
  rw[if_neg (by simp),if_neg (by simp)]
  exact c
 ·rw[h,if_pos rfl]at c
  rw[if_pos rfl,if_pos rfl,List.length_map]
  exact c
theorem bbB{n K:Nat}{l:List SpV}(hK:3000≤K)(h1:1≤n)(h4:n≤4)(hl:l.length=n*n)(he:∀s∈l,s.eK K∧s.lo.val K≤s.hi.val K)(h:l.all SpV.fit=true):fN n l=n∧fT l=l.map SpV.can∧imatV n (l.map SpV.can):=by
 refine⟨if_pos h,if_pos h,h1,h4,by rw[List.length_map];exact hl,fun s hs=>?_⟩
 obtain⟨t,ht,rfl⟩:=List.mem_map.1 hs
 have:=aoQ hK (he t ht).1 (he t ht).2
 rw[show t.tel=t.can from if_pos (List.all_eq_true.1 h t ht)]at this
 exact this
theorem y0(n n':Nat)(S S':List SpV)(h:imatV n S)(h':imatV n' S'):Con Tryz.prog 134 true [.ag [.v (.int .i64 (n)),.sl (S).length (qm SpV.cs (S))],.ag [.v (.int .i64 (n')),.sl (S').length (qm SpV.cs (S'))]] [] (isA (.v (.bool (decide (n=n'))))):=by
 refine Con.of_aw Tryz.func134 rfl Tryz.ntmps134 (by simp) (by simp) (by simp) (W.sound ?_)
 show @W Tryz.prog 18 ⟨_⟩ ⟨fun x σ=>@qR _ _ _ ⟨_⟩ _ ⟨_⟩ x σ⟩ _ _
 simp(disch:=omega)only[go_sem]
 refine qh (jJ n S h) ?_
 simp(disch:=omega)only[go_sem]
 refine qh (jJ n' S' h') ?_
 simp(disch:=omega)only[go_sem]
 refine qx (by simp(disch:=omega)only[go_sem]) (by simp(disch:=omega)only[go_sem]) ⟨?_,rfl,rfl⟩
 show AV.v (.bool _)=AV.v (.bool _)
 congr 2
 exact decide_eq_decide.2 ⟨fun h=>by omega,fun h=>by omega⟩
def ar8(k:Int)(M:List IvV)(k':Int)(M':List IvV):Bool:=afd k M&&(afd k' M'&&decide (k=k'))
theorem y3(k k':Int)(M M':List IvV)(h1:M.length≤16)(h2:∀v∈M,aa1 v)(h3:M'.length≤16)(h4:∀v∈M',aa1 v):
  Con Tryz.prog 134 true [.ag [.v (.int .i64 k),.sl M.length (qm IvV.cs M)],.ag [.v (.int .i64 k'),.sl M'.length (qm IvV.cs M')]] [] (isA (.v (.bool (ar8 k M k' M')))):=by
 unfold ar8
 have c1:=Qg k M (by omega) h2
 have c2:=Qg k' M' (by omega) h4
 generalize afd k M=b1 at*
 generalize afd k' M'=b2 at*
 cases b1
 ·refine Con.of_w (rs:=[.tmp 4]) Tryz.func134 rfl Tryz.ntmps134 rfl ?_
  simp(disch:=omega)only[go_sem]
  refine qh (c1) ?_
  simp(disch:=omega)only[go_sem]
  exact qu
 cases b2
 ·refine Con.of_w (rs:=[.tmp 4]) Tryz.func134 rfl Tryz.ntmps134 rfl ?_
  simp(disch:=omega)only[go_sem]
  refine qh (c1) ?_
  simp(disch:=omega)only[go_sem]
  refine qh (c2) ?_
  simp(disch:=omega)only[go_sem]
  exact qu
 ·refine Con.of_w (rs:=[.tmp 4]) Tryz.func134 rfl Tryz.ntmps134 rfl ?_
  simp(disch:=omega)only[go_sem]
  refine qh (c1) ?_
  simp(disch:=omega)only[go_sem]
  refine qh (c2) ?_
  simp(disch:=omega)only[go_sem]
  exact qu
theorem aqp{S S':List SpV}{lo hi:Int}(hl:S'.length=S.length)(hb:sbd lo hi S)(hb':sbd lo hi S'):sbd lo (hi+1) (zS S S'):=fun x hx=>by
 unfold zS at hx
 obtain⟨i,hi,rfl⟩:=List.mem_map.1 hx
 have hi:=List.mem_range.1 hi
 exact SpV.plus_bd (jk hb hi) (jk hb' (by omega))
theorem QG(n:Nat)(S S':List SpV)(h:imatV n S)(h':imatV n S'):Con Tryz.prog 55 false [.ag [.v (.int .i64 (n)),.sl (S).length (qm SpV.cs (S))],.ag [.v (.int .i64 (n)),.sl (S').length (qm SpV.cs (S'))]] [] (isA (.tu [.ag [.v (.int .i64 (fN n (zS S S'))),.sl (fT (zS S S')).length (qm SpV.cs (fT (zS S S')))],.v (.bool ((zS S S').all SpV.fit))])):=by
 refine Con.frzA ?_
 have ca:=y0 n n S S' h h'
 rw[decide_eq_true rfl]at ca
 have l1:=h.l16
 have l2:=h'.l16
 have hll:S'.length=S.length:=by rw[h.len,h'.len]
 have co:=aaJ n S S' (by omega) hll (zt h.bd (by omega) (by omega)) (zt h'.bd (by omega) (by omega))
 have cm:=Q5 n (zS S S') (by rw[Qz];omega) (zt (aqp hll h.bd h'.bd) (by omega) (by omega))
 generalize zS S S'=y at*
 refine Con.of_w (rs:=[.cell 4 82,.tmp 5]) Tryz.func55 rfl Tryz.ntmps55 rfl ?_
 simp(disch:=omega)only[go_sem]
 refine qh (ca) ?_
 simp(disch:=omega)only[go_sem]
 refine qp rfl [⟨0,[],[]⟩,⟨2,[0],[]⟩,⟨1,[2],[]⟩,⟨3,[],[]⟩,⟨4,[],[]⟩,⟨5,[],[]⟩,⟨6,[],[]⟩,⟨7,[],[]⟩,⟨8,[],[]⟩,⟨9,[],[]⟩] (by kernel_rfl) ?_
 simp(disch:=omega)only[go_sem]
 refine qa (jB n S (by omega)) ?_
 simp(disch:=omega)only[go_sem]
 refine qa (jB n S' (by omega)) ?_
 simp(disch:=omega)only[go_sem]
 refine qa (co) ?_
 simp(disch:=omega)only[go_sem]
 refine qa (cm) ?_
 simp(disch:=omega)only[go_sem]
 exact ql
theorem jF(k k':Int)(M M':List IvV)(h1:M.length≤16)(h2:∀v∈M,aa1 v)(h3:M'.length≤16)(h4:∀v∈M',aa1 v)(h:ar8 k M k' M'=false):
  Con Tryz.prog 55 false [.ag [.v (.int .i64 k),.sl M.length (qm IvV.cs M)],.ag [.v (.int .i64 k'),.sl M'.length (qm IvV.cs M')]] [] (isA (.tu [.ag [.v (.int .i64 0),.sl 0 []],.v (.bool false)])):=by
 refine Con.frzA ?_
 have ca:=y3 k k' M M' h1 h2 h3 h4
 rw[h]at ca
 refine Con.of_w (rs:=[.cell 4 82,.tmp 5]) Tryz.func55 rfl Tryz.ntmps55 rfl ?_
 simp(disch:=omega)only[go_sem]
 refine qh (ca) ?_
 simp(disch:=omega)only[go_sem]
 exact ql
theorem ajL{n:Nat}{S S':List SpV}(h:imatV n S)(h':imatV n S'):sbd (-6000) 9204 (qZ n S S'):=fun x hx=>by
 unfold qZ gly at hx
 obtain⟨t,ht,rfl⟩:=List.mem_map.1 hx
 have ht:=List.mem_range.1 ht
 have h0:=h.n1
 have hj:=Nat.mod_lt t (show 0<n by omega)
 have hi:t/n<n:=(Nat.div_lt_iff_lt_mul (by omega)).2 ht
 have:=ae1 (k:=n) hi hj (Nat.le_refl n) h.len h'.len h.bd h'.bd (by omega)
 exact SpV.bd.mono this (by omega) (by have:=h.n4;omega)
theorem Xe(n:Nat)(S S':List SpV)(h:imatV n S)(h':imatV n S'):Con Tryz.prog 56 false [.ag [.v (.int .i64 (n)),.sl (S).length (qm SpV.cs (S))],.ag [.v (.int .i64 (n)),.sl (S').length (qm SpV.cs (S'))]] [] (isA (.tu [.ag [.v (.int .i64 (fN n (qZ n S S'))),.sl (fT (qZ n S S')).length (qm SpV.cs (fT (qZ n S S')))],.v (.bool ((qZ n S S').all SpV.fit))])):=by
 refine Con.frzA ?_
 have ca:=y0 n n S S' h h'
 rw[decide_eq_true rfl]at ca
 have l1:=h.l16
 have l2:=h'.l16
 have hq:=yn h.n4
 have co:=Yh n S S' h.n4 h.len h'.len (zt h.bd (by omega) (by omega)) (zt h'.bd (by omega) (by omega))
 have cm:=Q5 n (qZ n S S') (by unfold qZ;rw[Qc];omega) (zt (ajL h h') (by omega) (by omega))
 generalize qZ n S S'=y at*
 refine Con.of_w (rs:=[.cell 4 82,.tmp 5]) Tryz.func56 rfl Tryz.ntmps56 rfl ?_
 simp(disch:=omega)only[go_sem]
 refine qh (ca) ?_
 simp(disch:=omega)only[go_sem]
 refine qp rfl [⟨0,[],[]⟩,⟨2,[0],[]⟩,⟨1,[2],[]⟩,⟨3,[],[]⟩,⟨4,[],[]⟩,⟨5,[],[]⟩,⟨6,[],[]⟩,⟨7,[],[]⟩,⟨8,[],[]⟩,⟨9,[],[]⟩] (by kernel_rfl) ?_
 simp(disch:=omega)only[go_sem]
 refine qa (jB n S (by omega)) ?_
 simp(disch:=omega)only[go_sem]
 refine qa (jB n S' (by omega)) ?_
 simp(disch:=omega)only[go_sem]
 refine qa (co) ?_
 simp(disch:=omega)only[go_sem]
 refine qa (cm) ?_
 simp(disch:=omega)only[go_sem]
 exact ql
theorem jE(k k':Int)(M M':List IvV)(h1:M.length≤16)(h2:∀v∈M,aa1 v)(h3:M'.length≤16)(h4:∀v∈M',aa1 v)(h:ar8 k M k' M'=false):
  Con Tryz.prog 56 false [.ag [.v (.int .i64 k),.sl M.length (qm IvV.cs M)],.ag [.v (.int .i64 k'),.sl M'.length (qm IvV.cs M')]] [] (isA (.tu [.ag [.v (.int .i64 0),.sl 0 []],.v (.bool false)])):=by
 refine Con.frzA ?_
 have ca:=y3 k k' M M' h1 h2 h3 h4
 rw[h]at ca
 refine Con.of_w (rs:=[.cell 4 82,.tmp 5]) Tryz.func56 rfl Tryz.ntmps56 rfl ?_
 simp(disch:=omega)only[go_sem]
 refine qh (ca) ?_
 simp(disch:=omega)only[go_sem]
 exact ql
theorem QF(n:Nat)(S:List SpV)(h:imatV n S):Con Tryz.prog 58 false [.ag [.v (.int .i64 (n)),.sl (S).length (qm SpV.cs (S))]] [] (isA (.tu [.ag [.v (.int .i64 (gN n (S.map yp))),.sl (gT (S.map yp)).length (qm ExV.cs (gT (S.map yp)))],.v (.bool ((S.map yp).all ExV.fit))])):=by
 refine Con.frzA ?_
 have l1:=h.l16
 have co:=aqS n S (by omega) (zt h.bd (by omega) (by omega))
 have cm:=Y7 n (S.map yp) (by rw[List.length_map];omega) (fun x hx=>by
  obtain⟨s,hs,rfl⟩:=List.mem_map.1 hx
  exact(apA (h.bd s hs)).mono (by omega) (by omega))
 generalize S.map yp=y at*
 refine Con.of_w (rs:=[.cell 2 25,.tmp 3]) Tryz.func58 rfl Tryz.ntmps58 rfl ?_
 simp(disch:=omega)only[go_sem]
 refine qh (jJ n S h) ?_
 simp(disch:=omega)only[go_sem]
 refine qa (jB n S (by omega)) ?_
 simp(disch:=omega)only[go_sem]
 refine qa (co) ?_
 simp(disch:=omega)only[go_sem]
 refine qa (cm) ?_
 simp(disch:=omega)only[go_sem]
 exact ql
def ap5(S:List SpV)(L:List ExV)(k:Nat):Bool:=(List.range k).all fun i=>aBq (S.getD i sp0) (L.getD i ex0)
theorem ju(n:Nat)(S:List SpV)(L:List ExV)(h:imatV n S)(hL:matV n L):Con Tryz.prog 59 true [.ag [.v (.int .i64 (n)),.sl (S).length (qm SpV.cs (S))],.ag [.v (.int .i64 (n)),.sl (L).length (qm ExV.cs (L))]] [] (isA (.v (.bool (ap5 S L (n*n))))):=by
 have l1:=h.l16
 have hS:=h.len
 have hLl:=hL.len
 refine Con.of_w (rs:=[.tmp 4]) Tryz.func59 rfl Tryz.ntmps59 rfl ?_
 simp(disch:=omega)only[go_sem]
 refine qh (jJ n S h) ?_
 simp(disch:=omega)only[go_sem]
 refine qh (yS n L hL) ?_
 simp(disch:=omega)only[go_sem]
 refine qj (fun i:Nat=>[(2,.pt 2 0),(3,.pt 3 0),(4,.v (.bool false)),(23,.sl L.length (qm ExV.cs L)),(24,.v (.int .i64 L.length)),(25,.v (.int .i64 i))])
  (fun _=>[(2,.own 0 [.v (.int .i64 n),.sl S.length (qm SpV.cs S)]),(3,.own 0 [.v (.int .i64 n),.sl L.length (qm ExV.cs L)])]) (fun i=>i≤L.length∧∀j,j<i→aBq (S.getD j sp0) (L.getD j ex0)=true) (fun i=>L.length-i) 0 ⟨by omega,fun j hj=>by omega⟩
  (Le.lst [(2,40000000),(3,50000000)] _ _ rfl (by simp(disch:=omega)only[go_sem]) (by simp(disch:=omega)only[go_sem])) ?_
 rintro i ⟨hi,hp⟩
 simp(disch:=omega)only[go_sem]
 refine qe (fun h1=>?_) (fun h1=>?_)
 ·have hi2:i<L.length:=by omega
  have hci:=j7 (l:=S) (i:=i) (by omega)
  have hcx:=z7 (l:=L) (i:=i) hi2
  have os:=h.ok (S.getD i sp0) (by rw[List.getD_eq_getElem?_getD,List.getElem?_eq_getElem (by omega)];exact List.getElem_mem _)
  have ox:=hL.ok (L.getD i ex0) (by rw[List.getD_eq_getElem?_getD,List.getElem?_eq_getElem hi2];exact List.getElem_mem _)
  have hno:aBq (S.getD i sp0) (L.getD i ex0)=false→ap5 S L (n*n)=false:=fun hf=>by
   unfold ap5
   rw[List.all_eq_false]
   exact⟨i,List.mem_range.2 (by omega),by rw[hf];simp⟩
  have hnx:aBq (S.getD i sp0) (L.getD i ex0)=true→∀j,j<i+1→aBq (S.getD j sp0) (L.getD j ex0)=true:=fun hf j hj=>by
   rcases(by omega:j<i∨j=i)with h'|rfl
   ·exact hp j h'
   ·exact hf
  have ch:=aqJ (S.getD i sp0) (L.getD i ex0) os ox
  change Con _ _ _ _ _ (isA (.v (.bool (aBq (S.getD i sp0) (L.getD i ex0)))))at ch
  generalize aBq (S.getD i sp0) (L.getD i ex0)=b at*
  generalize S.getD i sp0=s at*
  generalize L.getD i ex0=x at*
  simp(disch:=omega)only[go_sem,h1,hcx]
  refine⟨by omega,by omega,?_⟩
  refine qp rfl [⟨0,[],[]⟩,⟨1,[],[]⟩,⟨2,[1],[]⟩,⟨3,[],[]⟩,⟨4,[],[]⟩,⟨6,[1,4],[]⟩,⟨5,[6],[]⟩,⟨7,[],[]⟩,⟨8,[],[]⟩,⟨9,[],[]⟩] (by kernel_rfl) ?_
  simp(disch:=omega)only[go_sem,hci]
  refine⟨by omega,by omega,?_⟩
  refine qa (Yf s) ?_
  simp(disch:=omega)only[go_sem]
  refine qa (z8 x.s x.m x.e) ?_
  simp(disch:=omega)only[go_sem]
  refine qh (ch) ?_
  simp(disch:=omega)only[go_sem]
  cases b
  ·rw[hno rfl]
   simp(disch:=omega)only[go_sem]
   exact qu
  ·simp(disch:=omega)only[go_sem]
   exact qb (i+1) [] ⟨by omega,hnx rfl⟩ (by show L.length-(i+1)<L.length-i;omega) rfl (by simp(disch:=omega)only[go_sem];try omega) (by simp(disch:=omega)only[go_sem])
 ·have hall:ap5 S L (n*n)=true:=by
   unfold ap5
   exact List.all_eq_true.2 fun j hj=>hp j (by have:=List.mem_range.1 hj;omega)
  rw[hall]
  simp(disch:=omega)only[go_sem,h1]
  exact qu
end Go.Ab
namespace Go.Ab
open Go
section
variable {σ:St}
end
end Go.Ab
namespace Go.Ab
open Go
theorem aBo{L:List SpV}{k:Nat}{x:SpV}:wr (qm SpV.cs L++zR (k+1) z6) (L.length*6) [.v (.bool x.lo.s),.sl (lim x.lo.m).length (qc (lim x.lo.m)),.v (.int .i64 x.lo.e),.v (.bool x.hi.s),.sl (lim x.hi.m).length (qc (lim x.hi.m)),.v (.int .i64 x.hi.e)]=qm SpV.cs (L++[x])++zR k z6:=ae3 aoU rfl x
theorem aCq{x v:IvV}{L:List IvV}:wr (qm IvV.cs (x::L)) 0 [.v (.bool v.lo.s),.sl v.lo.xs.length (qc v.lo.xs),.v (.int .i64 v.lo.e),.v (.bool v.hi.s),.sl v.hi.xs.length (qc v.hi.xs),.v (.int .i64 v.hi.e)]=qm IvV.cs (v::L):=aBA aal (y:=v)
theorem KT{L:List SpV}{i:Nat}(hi:i<L.length):qm SpV.cs L=(qm SpV.cs (L.take i)++(L.getD i sp0).lo.cs)++(L.getD i sp0).hi.cs++qm SpV.cs (L.drop (i+1))∧(qm SpV.cs (L.take i)++(L.getD i sp0).lo.cs).length=i*6+3:=by
 have e:L=L.take i++[L.getD i sp0]++L.drop (i+1):=by
  rw[List.getD_eq_getElem?_getD,List.getElem?_eq_getElem hi,Option.getD_some,List.append_assoc,List.singleton_append,List.getElem_cons_drop,List.take_append_drop]
 constructor
 ·conv=>lhs;rw[e]
  rw[←QQ,←QQ,zl,yt,List.append_nil]
  show _++((L.getD i sp0).lo.cs++(L.getD i sp0).hi.cs)++_=_
  rw[←List.append_assoc]
 ·rw[List.length_append,Yu,List.length_take,Nat.min_eq_left (by omega),Jf]
theorem aOc{L:List SpV}{i:Nat}(hi:i<L.length):cut (qm SpV.cs L) (i*6+3) 3=[.v (.bool (L.getD i sp0).hi.s),.sl (lim (L.getD i sp0).hi.m).length (qc (lim (L.getD i sp0).hi.m)),.v (.int .i64 (L.getD i sp0).hi.e)]:=by
 obtain⟨h1,h2⟩:=KT hi
 rw[h1,←h2]
 unfold cut
 rw[List.append_assoc,List.drop_left',List.take_left' (Jf _)]
 ·rfl
 ·rfl
theorem aoP{L:List SpV}{i:Nat}{y:ExV}(hi:i<L.length):wr (qm SpV.cs L) (i*6+3) [.v (.bool y.s),.sl (lim y.m).length (qc (lim y.m)),.v (.int .i64 y.e)]=qm SpV.cs (L.set i ⟨(L.getD i sp0).lo,y⟩):=by
 obtain⟨h1,h2⟩:=KT hi
 rw[h1,Yp _ _ _ _ (by rw[List.length_append,h2,Jf];exact Nat.le_refl _),←h2,Qi _ _ _ (by rw[Jf];rfl),List.set_eq_take_append_cons_drop,if_pos hi,←QQ,zl]
 show _++y.cs++_=_++(((L.getD i sp0).lo.cs++y.cs)++_)
 simp only[List.append_assoc]
end Go.Ab
namespace Go.Ab
open Go
section
variable {P:Program}{N:Nat}{Q:Exit→St→Prop}{σ:St}
theorem AW.seqEx{X:Type}{x y:Code}{I:X→Prop}{E:X→List (Nat×AV)}{H:X→List (Nat×Ob)}(hx:AW P N x (fun ex σ'=>ex=.normal∧∃a,I a∧Le σ' ⟨ofL .un (E a),ofH (H a)⟩) σ)(hy:∀a,I a→AW P N y Q ⟨ofL .un (E a),ofH (H a)⟩):AW P N (.seq x y) Q σ:=
 AW.seq (hx.mono fun ex σ' ⟨he,a,ha,hl⟩=>by subst he;exact AW.le hl (hy a ha))
end
end Go.Ab
namespace Go.Ab
open Go Go.Proofs
/-! ### Drawn matrices of intervals-/
theorem aj7(n:Nat)(hn:n≤4):Con Tryz.prog 281 false [.v (.int .i64 n)] [] (fun r hs bs=>r=.ag [.v (.int .i64 n),.rf 0 0 (n*n)]∧hs=[.own 6 (zR (n*n) z6)]):=by
 have hq:=yn hn
 have hz:((n:Int)*n).toNat=n*n:=by rw[←Int.natCast_mul];rfl
 have hz2:(n:Int)*n=((n*n:Nat):Int):=(Int.natCast_mul n n).symm
 refine Con.of_aw Tryz.func281 rfl Tryz.ntmps281 (by simp) (by simp) (by simp) (W.sound ?_)
 show @W Tryz.prog 9 ⟨_⟩ ⟨fun x σ=>@qR _ _ _ ⟨_⟩ _ ⟨_⟩ x σ⟩ _ _
 simp(disch:=omega)only[go_sem]
 rw[hz]
 refine⟨by rw[hz2];omega,qg [(0,90000000)] [.own 6 (zR (n*n) z6)] [] [.ag [.v (.int .i64 n),.rf 0 0 (n*n)]] rfl (by simp(disch:=omega)only[go_sem]) (by simp(disch:=omega)only[go_sem,aEc,aEe];rfl) (by simp) (by simp) ⟨rfl,rfl⟩⟩
theorem aq8(n:Nat)(L:List ExV)(hn:n≤4)(hl:L.length=n*n):Con Tryz.prog 263 false [.ag [.v (.int .i64 (n)),.sl (L).length (qm ExV.cs (L))]] [] (fun r hs bs=>r=.ag [.v (.int .i64 n),.rf 0 0 (n*n)]∧hs=[.own 6 (qm SpV.cs (L.map ptS))]):=by
 have hq:=yn hn
 refine Con.of_aw Tryz.func263 rfl Tryz.ntmps263 (by simp) (by simp) (by simp) (W.sound ?_)
 show @W Tryz.prog 31 ⟨_⟩ ⟨fun x σ=>@qR _ _ _ ⟨_⟩ _ ⟨_⟩ x σ⟩ _ _
 simp(disch:=omega)only[go_sem]
 refine qW (aj7 n hn) (by simp(disch:=omega)only[go_sem]) ?_
 rintro r hs ⟨rfl,rfl⟩
 refine⟨by simp[qO];simp(disch:=omega)only[go_sem],?_⟩
 simp(disch:=omega)only[go_sem]
 refine qj (fun i:Nat=>[(1,.pt 1 0),(2,.pt 2 0),(3,.pt 3 0),(4,.v (.int .i64 i))])
  (fun i=>[(1,.own 0 [.v (.int .i64 n),.sl L.length (qm ExV.cs L)]),(2,.own 0 [.v (.int .i64 0),.v (.slice none 0 0)]),(3,.own 0 [.v (.int .i64 n),.rf 4 0 (n*n)]),(4,.own 6 (qm SpV.cs (mpT L ptS i)++zR (n*n-i) z6))]) (fun i=>i≤n*n) (fun i=>n*n-i) 0 (by omega)
  (Le.lst [(1,30000000),(2,40000000),(3,50000000),(4,90000000)] _ _ rfl (by simp(disch:=omega)only[go_sem]) (by simp(disch:=omega)only[go_sem,jH,y6,List.nil_append];try rfl)) ?_
 intro i hi
 simp(disch:=omega)only[go_sem]
 refine qe (fun c1=>?_) (fun c1=>?_)
 ·have hi2:i<L.length:=by omega
  have hcut:=z7 hi2
  have hml:=zM (F:=ptS) (l:=L) (i:=i) (by omega)
  have hms:=jI (F:=ptS) ex0 hi2
  obtain⟨k,hk⟩:∃k,n*n-i=k+1:=⟨n*n-i-1,by omega⟩
  generalize L.getD i ex0=x at*
  rw[hk]
  simp(disch:=omega)only[go_sem,c1]
  refine qp rfl [⟨0,[],[]⟩,⟨1,[],[]⟩,⟨2,[1],[]⟩,⟨3,[1],[]⟩,⟨4,[1],[]⟩,⟨5,[1,4],[]⟩,⟨6,[1],[]⟩,⟨7,[1],[]⟩,⟨8,[1,4,7],[]⟩,⟨9,[1,4,7],[]⟩,⟨10,[1,4,7,9],[]⟩,⟨11,[1,4,7],[]⟩,⟨12,[1,4,7],[]⟩,⟨13,[1],[]⟩,⟨14,[],[]⟩,⟨15,[],[]⟩] (by kernel_rfl) ?_
  simp(disch:=omega)only[go_sem,hcut]
  have hf:=aBo (L:=mpT L ptS i) (k:=k) (x:=ptS x)
  rw[hml]at hf
  change wr (qm SpV.cs (mpT L ptS i)++zR (k+1) z6) (i*6) [.v (.bool x.s),.sl (lim x.m).length (qc (lim x.m)),.v (.int .i64 x.e),.v (.bool x.s),.sl (lim x.m).length (qc (lim x.m)),.v (.int .i64 x.e)]=_ at hf
  rw[hf]
  refine⟨by omega,by omega,by omega,by omega,by omega,by rw[List.length_append,Yu,aEd,hml];omega,qb (i+1) [] (by show i+1≤n*n;omega) (by show n*n-(i+1)<k+1;omega) rfl (by simp(disch:=omega)only[go_sem];try omega) (by simp(disch:=omega)only[go_sem,hms,show n*n-(i+1)=k by omega])⟩
 ·obtain rfl:i=n*n:=by omega
  simp(disch:=omega)only[go_sem,c1]
  have hall:mpT L ptS (n*n)=L.map ptS:=by rw[←hl,yx]
  refine qg [(0,4)] [.own 6 (qm SpV.cs (L.map ptS))] [] [.ag [.v (.int .i64 n),.rf 0 0 (n*n)]] rfl (by simp(disch:=omega)only[go_sem]) (by simp(disch:=omega)only[go_sem,hall,Nat.sub_self,aEb,List.append_nil]) (by simp) (by simp) ⟨rfl,rfl⟩
def aZN(r:AV):Prop:=∃(n:Int) (l:List IvV),l.length≤16∧(∀v∈l,aa1 v)∧r=.ag [.v (.int .i64 n),.sl l.length (qm IvV.cs l)]
theorem YH{n:Int}{L:List IvV}{o k:Nat}(h1:L.length=o+k)(h2:L.length≤16)(h3:∀v∈L,aa1 v):aZN (qE (rhp [.own 6 (qm IvV.cs L)] []) 6 (.ag [.v (.int .i64 n),.rf 0 (o*6) k])):=by
 refine⟨n,(L.drop o).take k,?_,fun d hd=>h3 d (List.mem_of_mem_drop (List.mem_of_mem_take hd)),?_⟩
 ·rw[List.length_take,List.length_drop];omega
 ·have e:((L.drop o).take k).length=k:=by rw[List.length_take,List.length_drop];omega
  rw[e]
  show AV.ag [_,qE _ 5 (.rf 0 (o*6) k)]=_
  simp only[adJ,zb]
  rw[ao9 aal,afc]
  rfl
section
variable (l:List UInt8)(hl:l.length≤9223372036854775807)(i h:Int)(hi:0≤i∧i≤l.length)
include hl hi
theorem aeo(n:Nat)(hn:n≤4):Con Tryz.prog 219 false [.pt 10000000 0,.v (.int .i64 n)] [.own 0 [.sl l.length (qk l),.v (.int .i64 i),.v (.int .i64 h)]] (fun r hs bs=>(∃S:List SpV,S.length=n*n∧(∀s∈S,(lim s.lo.m).length≤1000∧(lim s.hi.m).length≤1000)∧r=.ag [.v (.int .i64 n),.rf 0 0 (n*n)]∧hs=[.own 6 (qm SpV.cs S)])∧∃i h:Int,(0≤i∧i≤l.length)∧bs=[.own 0 [.sl l.length (qk l),.v (.int .i64 i),.v (.int .i64 h)]]):=by
 have hq:=yn hn
 refine Con.of_aw Tryz.func219 rfl Tryz.ntmps219 (by simp) (by simp) (by simp)
  (AW.seqLe (E:=[(0,.pt 10000000 0),(1,.v (.int .i64 n)),(4,.pt 4 0)]) (H:=[(4,.own 0 [.v (.int .i64 0),.v (.slice none 0 0)]),(10000000,.own 0 [.sl l.length (qk l),.v (.int .i64 i),.v (.int .i64 h)])]) (W.sound ?_)
   (AW.seqEx (I:=fun x:List ExV×Int×Int=>x.1.length=n*n∧(∀y∈x.1,y.ok=true)∧(0≤x.2.1∧x.2.1≤l.length)) (E:=fun _=>[(0,.pt 10000000 0),(1,.v (.int .i64 n)),(4,.pt 4 0),(5,.pt 5 0)]) (H:=fun x=>[(4,.own 0 [.v (.int .i64 0),.v (.slice none 0 0)]),(5,.own 0 [.v (.int .i64 n),.sl (n*n) (qm ExV.cs x.1)]),(10000000,.own 0 [.sl l.length (qk l),.v (.int .i64 x.2.1),.v (.int .i64 x.2.2)])]) (W.sound ?_) ?_))
 ·show @W Tryz.prog 39 ⟨_⟩ ⟨_⟩ _ _
  simp(disch:=omega)only[go_sem]
  exact Le.lst [(4,60000000)] _ _ rfl (by simp(disch:=omega)only[go_sem]) (by simp(disch:=omega)only[go_sem])
 ·show @W Tryz.prog 39 ⟨_⟩ ⟨_⟩ _ _
  simp(disch:=omega)only[go_sem]
  refine yG false [10000000] (ajZ l hl i h hi n hn) (by simp(disch:=omega)only[go_sem]) (by simp(disch:=omega)only[go_sem]) rfl (qQ (z:=0) (cs:=[.sl l.length (qk l),.v (.int .i64 i),.v (.int .i64 h)]) (by simp(disch:=omega)only[go_sem]) (by simp(disch:=omega)only[go_sem])) (by intro n hn;exact⟨_,List.mem_cons_self ..,by rw[List.mem_singleton.1 hn];rfl⟩) ?_
  rintro r hs bs ⟨⟨L,hL,hok,rfl,rfl⟩,i1,h1,hi1,rfl⟩-
  refine⟨by simp[qO];simp(disch:=omega)only[go_sem],?_⟩
  simp(disch:=omega)only[go_sem]
  exact⟨(L,i1,h1),⟨hL,hok,hi1⟩,(Le.frz 120000000 (z:=3) (ks:=qm ExV.cs L) (by simp(disch:=omega)only[go_sem]) rfl (by simp(disch:=omega)only[go_sem])).trans (Le.lst [(5,70000000)] _ _ rfl (by simp(disch:=omega)only[go_sem]) (by simp(disch:=omega)only[go_sem,zC hL]))⟩
 rintro⟨L,i1,h1⟩ ⟨hL,hok,hi1⟩
 dsimp only at hL hok hi1 ⊢
 refine W.sound ?_
 show @W Tryz.prog 39 ⟨_⟩ ⟨fun x σ=>@qR _ _ _ ⟨_⟩ _ ⟨_⟩ x σ⟩ _ _
 simp(disch:=omega)only[go_sem]
 have cof:=aq8 n L hn hL
 rw[hL]at cof
 refine qW cof (by simp(disch:=omega)only[go_sem]) ?_
 rintro r hs2 ⟨rfl,rfl⟩
 refine⟨by simp[qO];simp(disch:=omega)only[go_sem],?_⟩
 simp(disch:=omega)only[go_sem]
 refine qj (fun x:Nat×List SpV×Int×Int=>[(0,.pt 10000000 0),(4,.pt 4 0),(6,.pt 6 0),(7,.v (.int .i64 x.1))])
  (fun x=>[(4,.own 0 [.v (.int .i64 0),.v (.slice none 0 0)]),(6,.own 0 [.v (.int .i64 n),.rf 7 0 (n*n)]),(7,.own 6 (qm SpV.cs x.2.1)),(10000000,.own 0 [.sl l.length (qk l),.v (.int .i64 x.2.2.1),.v (.int .i64 x.2.2.2)])])
  (fun x=>x.1≤n*n∧x.2.1.length=n*n∧(∀s∈x.2.1,(lim s.lo.m).length≤1000∧(lim s.hi.m).length≤1000)∧(∀t,x.1≤t→t<n*n→x.2.1.getD t sp0=ptS (L.getD t ex0))∧(0≤x.2.2.1∧x.2.2.1≤l.length)) (fun x=>n*n-x.1) (0,L.map ptS,i1,h1) ⟨by simp,by rw[List.length_map];exact hL,fun s hs=>?_,fun t _ ht=>?_,hi1⟩
  (Le.lst [(6,80000000),(7,140000000)] _ _ rfl (by simp(disch:=omega)only[go_sem]) (by simp(disch:=omega)only[go_sem])) ?_
 ·obtain⟨x,hx,rfl⟩:=List.mem_map.1 hs
  have:=(zW (hok x hx)).2.2.1
  exact⟨by show(lim x.m).length≤1000;omega,by show(lim x.m).length≤1000;omega⟩
 ·rw[List.getD_eq_getElem?_getD,List.getElem?_map,List.getD_eq_getElem?_getD,List.getElem?_eq_getElem (by omega)];rfl
 rintro⟨j,S,i2,h2⟩ ⟨hj,hS,hS2,hS3,hi2⟩
 dsimp only at hj hS hS2 hS3 hi2 ⊢
 simp(disch:=omega)only[go_sem]
 refine qe (fun c1=>?_) (fun c1=>?_)
 ·have hj2:j<n*n:=by omega
  simp(disch:=omega)only[go_sem,c1]
  refine qr (qL l hl i2 h2 hi2 2 (by omega)) ?_
  rintro r i3 h3 hi3 ⟨b,rfl⟩
  simp(disch:=omega)only[go_sem]
  cases b
  ·simp(disch:=omega)only[go_sem]
   exact qb (j+1,S,i3,h3) [] ⟨by omega,hS,hS2,fun t ht=>hS3 t (by omega),hi3⟩ (by show n*n-(j+1)<n*n-j;omega) rfl (by simp(disch:=omega)only[go_sem];try omega) (by simp(disch:=omega)only[go_sem])
  ·simp(disch:=omega)only[go_sem]
   refine qp rfl [⟨0,[],[]⟩,⟨1,[],[]⟩,⟨2,[1],[]⟩,⟨3,[1],[]⟩,⟨4,[1],[]⟩,⟨5,[1,4],[]⟩,⟨6,[1],[]⟩,⟨7,[1],[]⟩,⟨8,[1],[]⟩,⟨9,[1,4,8],[]⟩,⟨10,[1,4,8],[]⟩,⟨11,[1,4,8],[]⟩,⟨12,[1,4,8],[]⟩,⟨13,[1],[]⟩,⟨14,[],[]⟩,⟨15,[],[]⟩,⟨16,[],[]⟩] (by kernel_rfl) ?_
   have hcut:=aOc (L:=S) (i:=j) (by omega)
   have hset:=fun y=>aoP (L:=S) (i:=j) (y:=y) (by omega)
   have hsj:=hS3 j (Nat.le_refl _) hj2
   have ox:=hok (L.getD j ex0) (by rw[List.getD_eq_getElem?_getD,List.getElem?_eq_getElem (by omega)];exact List.getElem_mem _)
   rw[hsj]at hcut hset
   generalize L.getD j ex0=x at*
   dsimp only[ptS]at hcut hset
   simp(disch:=omega)only[go_sem,hcut]
   refine⟨by omega,by omega,?_⟩
   refine qr (qH l hl i3 h3 hi3 5 (by omega)) ?_
   rintro r i4 h4 hi4 ⟨k,hk,rfl⟩
   simp(disch:=omega)only[go_sem]
   have hk2:=hk.2 (by omega)
   have b6:bl k.natAbs≤6:=zy.2 (by omega)
   have cf:=jY (decide (k<0)) k.natAbs (-3) (by omega) (by omega)
   have hf:(ExV.mk (decide (k<0)) k.natAbs (-3)).can.ok=true:=by
    rw[aeE]
    show jP k.natAbs (-3)=true
    exact aau (by omega) (by omega)
   change Con _ _ _ _ _ (isA (.ag [.v (.bool ((ExV.mk (decide (k<0)) k.natAbs (-3)).can).s),.sl (lim ((ExV.mk (decide (k<0)) k.natAbs (-3)).can).m).length (qc (lim ((ExV.mk (decide (k<0)) k.natAbs (-3)).can).m)),.v (.int .i64 ((ExV.mk (decide (k<0)) k.natAbs (-3)).can).e)]))at cf
   generalize (ExV.mk (decide (k<0)) k.natAbs (-3)).can=z at*
   have bx:=Qr ox
   have bz:=Qr hf
   have ca:=J9 x z (bx.mono (by omega) (by omega)) (bz.mono (by omega) (by omega))
   have hl2:(lim (x.plus z).can.m).length≤1000:=by
    have bp:=ExV.plus_bd bx bz
    have h1:=qB (m:=(x.plus z).m) (B:=7700) (by have:=bp.2.1;have:=bp.2.2;omega)
    have h2:=ye (apn (x.plus z).m)
    show(lim (oM (x.plus z).m)).length≤1000
    omega
   generalize (x.plus z).can=y at*
   refine qa (QD k (by omega)) ?_
   simp(disch:=omega)only[go_sem]
   refine qa (cf) ?_
   simp(disch:=omega)only[go_sem]
   refine qa (ca) ?_
   simp(disch:=omega)only[go_sem]
   rw[hset y]
   refine⟨by omega,by omega,qb (j+1,S.set j ⟨x,y⟩,i4,h4) [] ⟨by omega,by dsimp only;rw[List.length_set];exact hS,fun s hs=>?_,fun t ht htn=>?_,hi4⟩ (by show n*n-(j+1)<n*n-j;omega) rfl (by simp(disch:=omega)only[go_sem];try omega) (by simp(disch:=omega)only[go_sem])⟩
   ·rcases List.mem_or_eq_of_mem_set hs with hs|rfl
    ·exact hS2 s hs
    ·have:=(zW ox).2.2.1
     exact⟨by show(lim x.m).length≤1000;omega,hl2⟩
   ·dsimp only at ht ⊢
    rw[List.getD_eq_getElem?_getD,List.getElem?_set_ne (by omega),←List.getD_eq_getElem?_getD]
    exact hS3 t (by omega) htn
 ·simp(disch:=omega)only[go_sem,c1]
  refine qg [(0,7)] [.own 6 (qm SpV.cs S)] [.own 0 [.sl l.length (qk l),.v (.int .i64 i2),.v (.int .i64 h2)]] [.ag [.v (.int .i64 n),.rf 0 0 (n*n)]] rfl (by simp(disch:=omega)only[go_sem]) (by simp(disch:=omega)only[go_sem]) (by simp) (by simp) ⟨⟨S,hS,hS2,rfl,rfl⟩,_,_,hi2,rfl⟩
theorem Qe(n:Nat)(hn:1≤n∧n≤4):Con Tryz.prog 153 false [.pt 10000000 0,.v (.int .i64 n)] [.own 0 [.sl l.length (qk l),.v (.int .i64 i),.v (.int .i64 h)]] (J3 l aZN):=by
 have hq:=yn hn.2
 refine Con.cur l i h (Q:=fun r hs=>(∀ob∈hs,ob.men fun _=>False)∧aZN (qE (rhp hs []) 6 r)) ?_ fun _ _ h=>h
 refine Con.of_aw Tryz.func153 rfl Tryz.ntmps153 (by simp) (by simp) (by simp) (W.sound ?_)
 show @W Tryz.prog 33 ⟨_⟩ ⟨fun x σ=>@qR _ _ _ ⟨_⟩ _ ⟨_⟩ x σ⟩ _ _
 simp(disch:=omega)only[go_sem]
 refine yG false [10000000] (aeo l hl i h hi n hn.2) (by simp(disch:=omega)only[go_sem]) (by simp(disch:=omega)only[go_sem]) rfl (qQ (z:=0) (cs:=[.sl l.length (qk l),.v (.int .i64 i),.v (.int .i64 h)]) (by simp(disch:=omega)only[go_sem]) (by simp(disch:=omega)only[go_sem])) (by intro n hn;exact⟨_,List.mem_cons_self ..,by rw[List.mem_singleton.1 hn];rfl⟩) ?_
 rintro r hs bs ⟨⟨S,hS,hS2,rfl,rfl⟩,i1,h1,hi1,rfl⟩-
 refine⟨by simp[qO];simp(disch:=omega)only[go_sem],?_⟩
 simp(disch:=omega)only[go_sem]
 have h16:(S.map SpV.iv).length=n*n:=by rw[List.length_map];exact hS
 have h200:∀v∈S.map SpV.iv,aa1 v:=fun v hv=>by
  obtain⟨s,hs,rfl⟩:=List.mem_map.1 hv
  exact hS2 s hs
 rw[←ZR]
 generalize S.map SpV.iv=M at*
 have hm:∀(M:List IvV),∀ob∈[Ob.own 6 (qm IvV.cs M)],ob.men fun _=>False:=fun M ob ho=>by rw[List.mem_singleton.1 ho];exact of_eq_true apW
 refine qr (qL l hl i1 h1 hi1 12 (by omega)) ?_
 rintro r i2 h2 hi2 ⟨b,rfl⟩
 simp(disch:=omega)only[go_sem]
 cases b
 ·simp(disch:=omega)only[go_sem]
  refine qg [(0,100000000)] [.own 6 (qm IvV.cs M)] [.own 0 [.sl l.length (qk l),.v (.int .i64 i2),.v (.int .i64 h2)]] [.ag [.v (.int .i64 n),.rf 0 (0*6) (n*n)]] rfl (by simp(disch:=omega)only[go_sem]) (by simp(disch:=omega)only[go_sem]) (by simp) (by simp) ⟨⟨hm M,YH (o:=0) (by omega) (by omega) h200⟩,_,_,hi2,rfl⟩
 ·simp(disch:=omega)only[go_sem]
  refine qr (qH l hl i2 h2 hi2 3 (by omega)) ?_
  rintro r i3 h3 hi3 ⟨q,hq,rfl⟩
  simp(disch:=omega)only[go_sem]
  by_cases c0:q=0
  ·simp(disch:=omega)only[go_sem,c0]
   refine j0 (zE l hl i3 h3 hi3 [0,(n:Int)+1, -1] (by simp) (by simp)) ?_
   rintro r i4 h4 hi4 ⟨y,hy,rfl⟩
   clear hy
   simp(disch:=omega)only[go_sem]
   refine qg [(0,100000000)] [.own 6 (qm IvV.cs M)] [.own 0 [.sl l.length (qk l),.v (.int .i64 i4),.v (.int .i64 h4)]] [.ag [.v (.int .i64 y),.rf 0 (0*6) (n*n)]] rfl (by simp(disch:=omega)only[go_sem]) (by simp(disch:=omega)only[go_sem]) (by simp) (by simp) ⟨⟨hm M,YH (o:=0) (by omega) (by omega) h200⟩,_,_,hi4,rfl⟩
  by_cases c1:q=1
  ·simp(disch:=omega)only[go_sem,c0,c1]
   have h1n:1≤n*n:=Nat.mul_le_mul hn.1 hn.1
   refine⟨by omega,?_⟩
   rw[show(((n*n:Nat):Int)-1).toNat=n*n-1 by omega]
   refine qg [(0,100000000)] [.own 6 (qm IvV.cs M)] [.own 0 [.sl l.length (qk l),.v (.int .i64 i3),.v (.int .i64 h3)]] [.ag [.v (.int .i64 n),.rf 0 (1*6) (n*n-1)]] rfl (by simp(disch:=omega)only[go_sem]) (by simp(disch:=omega)only[go_sem]) (by simp) (by simp) ⟨⟨hm M,YH (o:=1) (by omega) (by omega) h200⟩,_,_,hi3,rfl⟩
  simp(disch:=omega)only[go_sem,c0,c1]
  refine qp rfl [⟨0,[],[]⟩,⟨1,[],[]⟩,⟨2,[1],[]⟩,⟨3,[1],[]⟩,⟨4,[],[]⟩,⟨5,[],[]⟩] (by kernel_rfl) ?_
  simp(disch:=omega)only[go_sem]
  have h1n:1≤n*n:=Nat.mul_le_mul hn.1 hn.1
  obtain⟨d0,M,rfl⟩:∃d0 M',M=d0::M':=by
   cases M with
   |nil=>simp at h16;omega
   |cons d M=>exact⟨d,M,rfl⟩
  refine qr (aj1 l hl i3 h3 hi3) ?_
  rintro r i4 h4 hi4 ⟨v,hv,hr⟩
  obtain rfl:r=.ag [.v (.bool (v).lo.s),.sl (v).lo.xs.length (qc (v).lo.xs),.v (.int .i64 (v).lo.e),.v (.bool (v).hi.s),.sl (v).hi.xs.length (qc (v).hi.xs),.v (.int .i64 (v).hi.e)]:=hr
  simp(disch:=omega)only[go_sem,aCq]
  refine⟨by omega,by omega,qg [(0,100000000)] [.own 6 (qm IvV.cs (v::M))] [.own 0 [.sl l.length (qk l),.v (.int .i64 i4),.v (.int .i64 h4)]] [.ag [.v (.int .i64 n),.rf 0 (0*6) (n*n)]] rfl (by simp(disch:=omega)only[go_sem]) (by simp(disch:=omega)only[go_sem]) (by simp) (by simp) ⟨⟨hm _,YH (o:=0) (by simp at h16 ⊢;omega) (by simp at h16 ⊢;omega) (fun d hd'=>?_)⟩,_,_,hi4,rfl⟩⟩
  rcases List.mem_cons.1 hd' with rfl|hd'
  ·exact hv
  ·exact h200 d (List.mem_cons_of_mem _ hd')
end
def aUu(M:List IvV):Prop:=M.length≤16∧∀v∈M,aa1 v
theorem aen(l:List UInt8)(hl:l.length≤9223372036854775807):Con Tryz.prog 133 false [.sl l.length (qk l)] [] (fun r hs bs=>hs=[]∧bs=[]∧∃(n n':Int) (M M':List IvV),aUu M∧aUu M'∧r=.tu [.ag [.v (.int .i64 n),.sl M.length (qm IvV.cs M)],.ag [.v (.int .i64 n'),.sl M'.length (qm IvV.cs M')]]):=by
 refine Con.of_aw Tryz.func133 rfl Tryz.ntmps133 (by simp) (by simp) (by simp) (W.sound ?_)
 show @W Tryz.prog 22 ⟨_⟩ ⟨fun x σ=>@qR _ _ _ ⟨_⟩ _ ⟨_⟩ x σ⟩ _ _
 simp(disch:=omega)only[go_sem]
 refine qW (aq7 l hl) (by simp(disch:=omega)only[go_sem]) ?_
 rintro r hs ⟨rfl, -,⟨h,rfl⟩⟩
 refine⟨by simp(disch:=omega)only[go_sem],?_⟩
 simp(disch:=omega)only[go_sem]
 refine qr (aqX l hl 0 h (by omega)) ?_
 rintro r i1 h1 hi1 ⟨n,hn,rfl⟩
 simp(disch:=omega)only[go_sem]
 refine qr (Qe l hl i1 h1 hi1 n hn) ?_
 rintro r i2 h2 hi2 ⟨k,L,hL1,hL2,rfl⟩
 simp(disch:=omega)only[go_sem]
 refine qr (qL l hl i2 h2 hi2 12 (by omega)) ?_
 rintro r i3 h3 hi3 ⟨b,rfl⟩
 simp(disch:=omega)only[go_sem]
 cases b
 ·simp(disch:=omega)only[go_sem]
  refine qp rfl [⟨0,[],[]⟩,⟨1,[0],[]⟩,⟨2,[0],[]⟩,⟨3,[0],[]⟩,⟨4,[],[]⟩,⟨5,[],[]⟩] (by kernel_rfl) ?_
  simp(disch:=omega)only[go_sem]
  refine qr (Qe l hl i3 h3 hi3 n hn) ?_
  rintro r i4 h4 hi4 ⟨k',L',hM1,hM2,rfl⟩
  simp(disch:=omega)only[go_sem]
  exact qP (by simp(disch:=omega)only[go_sem]) ⟨rfl,rfl,k,k',L,L',⟨hL1,hL2⟩,⟨hM1,hM2⟩,rfl⟩
 ·simp(disch:=omega)only[go_sem]
  refine qr (aqX l hl i3 h3 hi3) ?_
  rintro r i4 h4 hi4 ⟨m,hm,rfl⟩
  simp(disch:=omega)only[go_sem]
  refine qp rfl [⟨0,[],[]⟩,⟨1,[0],[]⟩,⟨2,[0],[]⟩,⟨3,[0],[]⟩,⟨4,[],[]⟩,⟨5,[],[]⟩] (by kernel_rfl) ?_
  simp(disch:=omega)only[go_sem]
  refine qr (Qe l hl i4 h4 hi4 m hm) ?_
  rintro r i5 h5 hi5 ⟨k',L',hM1,hM2,rfl⟩
  simp(disch:=omega)only[go_sem]
  exact qP (by simp(disch:=omega)only[go_sem]) ⟨rfl,rfl,k,k',L,L',⟨hL1,hL2⟩,⟨hM1,hM2⟩,rfl⟩
end Go.Ab
namespace Go.Ab
open Go Go.Proofs
theorem QE(k:Int)(M:List IvV)(h1:M.length≤16)(h2:∀v∈M,aa1 v):Con Tryz.prog 57 true [.ag [.v (.int .i64 k),.sl M.length (qm IvV.cs M)]] [] (isA (.v (.bool (afd k M)))):=by
 unfold afd
 refine Con.of_w (rs:=[.tmp 2]) Tryz.func57 rfl Tryz.ntmps57 rfl ?_
 simp(disch:=omega)only[go_sem]
 by_cases c1:k<1
 ·rw[decide_eq_false (show ¬1≤k by omega),Bool.false_and,Bool.false_and]
  simp(disch:=omega)only[go_sem,c1]
  exact qu
 by_cases c2:4<k
 ·rw[decide_eq_false (show ¬k≤4 by omega),Bool.and_false,Bool.false_and]
  simp(disch:=omega)only[go_sem,c1,c2]
  exact qu
 rw[decide_eq_true (show 1≤k by omega),decide_eq_true (show k≤4 by omega),Bool.true_and,Bool.true_and]
 have hq:0≤k*k∧k*k≤16:=⟨Int.mul_nonneg (by omega) (by omega),Int.mul_le_mul (show k≤4 by omega) (show k≤4 by omega) (by omega) (by omega)⟩
 by_cases c3:(M.length:Int)=k*k
 rotate_left
 ·rw[decide_eq_false c3,Bool.false_and]
  simp(disch:=omega)only[go_sem,c1,c2,decide_eq_false c3]
  exact qu
 rw[decide_eq_true c3,Bool.true_and]
 simp(disch:=omega)only[go_sem,c1,c2,decide_eq_true c3]
 refine qj (fun i:Nat=>[(1,.pt 1 0),(2,.v (.bool false)),(3,.v (.int .i64 i))]) (fun _=>[(1,.own 0 [.v (.int .i64 k),.sl M.length (qm IvV.cs M)])]) (fun i=>i≤M.length∧∀j,j<i→ivB (M.getD j iv0)=true) (fun i=>M.length-i) 0 ⟨by omega,fun j hj=>by omega⟩
  (Le.lst [(1,30000000)] _ _ rfl (by simp(disch:=omega)only[go_sem]) (by simp(disch:=omega)only[go_sem])) ?_
 rintro i ⟨hi,hp⟩
 simp(disch:=omega)only[go_sem]
 refine qe (fun h3=>?_) (fun h3=>?_)
 ·have hcut:=ZT (l:=M) aal (i:=i) (by omega) iv0
  have hmem:M.getD i iv0∈M:=by
   rw[List.getD_eq_getElem?_getD,List.getElem?_eq_getElem (by omega)];exact List.getElem_mem _
  have cd:=arl (M.getD i iv0) (h2 _ hmem)
  have hall:ivB (M.getD i iv0)=false→M.all ivB=false:=fun h=>List.all_eq_false.2 ⟨_,hmem,by rw[h];simp⟩
  have hnext:ivB (M.getD i iv0)=true→∀j,j<i+1→ivB (M.getD j iv0)=true:=fun h j hj=>by
   rcases(by omega:j<i∨j=i)with h'|rfl
   ·exact hp j h'
   ·exact h
  generalize ivB (M.getD i iv0)=b at*
  generalize M.getD i iv0=d at*
  change cut (qm IvV.cs M) (i*6) 6=[.v (.bool d.lo.s),.sl d.lo.xs.length (qc d.lo.xs),.v (.int .i64 d.lo.e),.v (.bool d.hi.s),.sl d.hi.xs.length (qc d.hi.xs),.v (.int .i64 d.hi.e)]at hcut
  simp(disch:=omega)only[go_sem,h3,hcut]
  refine⟨by omega,by omega,qh cd ?_⟩
  simp(disch:=omega)only[go_sem]
  cases b
  ·rw[hall rfl]
   simp(disch:=omega)only[go_sem]
   exact qu
  ·simp(disch:=omega)only[go_sem]
   exact qb (i+1) [] ⟨by omega,hnext rfl⟩ (by show M.length-(i+1)<M.length-i;omega) rfl (by simp(disch:=omega)only[go_sem];try omega) (by simp(disch:=omega)only[go_sem])
 ·simp(disch:=omega)only[go_sem,h3]
  have hall:M.all ivB=true:=List.all_eq_true.2 fun d hd=>by
   obtain⟨j,hj,rfl⟩:=List.getElem_of_mem hd
   have:=hp j (by omega)
   rw[List.getD_eq_getElem?_getD,List.getElem?_eq_getElem hj]at this
   exact this
  rw[hall]
  exact qu
theorem aaQ(n:Nat)(L:List ExV)(h:matV n L):Con Tryz.prog 72 false [.ag [.v (.int .i64 (n)),.sl (L).length (qm ExV.cs (L))]] [] (isA (.tu [.ag [.v (.int .i64 (n)),.sl (L.map ptS).length (qm SpV.cs (L.map ptS))],.v (.bool true)])):=by
 refine Con.frzA ?_
 have l1:=h.l16
 have co:=Qf n L (by omega)
 have cm:=Q5 n (L.map ptS) (by rw[List.length_map];omega) (fun s hs=>by
  obtain⟨x,hx,rfl⟩:=List.mem_map.1 hs
  have:=h.bd x hx
  exact⟨this.mono (by omega) (by omega),this.mono (by omega) (by omega)⟩)
 have hf:(L.map ptS).all SpV.fit=true:=List.all_eq_true.2 fun s hs=>by
  obtain⟨x,hx,rfl⟩:=List.mem_map.1 hs
  have:=aO5 (h.ok x hx)
  show(x.fit&&x.fit)=true
  rw[this];rfl
 have hc:(L.map ptS).map SpV.can=L.map ptS:=by
  rw[List.map_map]
  refine List.map_congr_left fun x hx=>?_
  show(⟨x.can,x.can⟩:SpV)=⟨x,x⟩
  rw[aFm (h.ok x hx)]
 unfold fN fT at cm
 rw[hf,if_pos rfl,if_pos rfl,hc]at cm
 generalize L.map ptS=S at*
 refine Con.of_w (rs:=[.cell 2 82,.tmp 3]) Tryz.func72 rfl Tryz.ntmps72 rfl ?_
 simp(disch:=omega)only[go_sem]
 refine qh (yS n L h) ?_
 simp(disch:=omega)only[go_sem]
 refine qa (zN n L (by omega)) ?_
 simp(disch:=omega)only[go_sem]
 refine qa (co) ?_
 simp(disch:=omega)only[go_sem]
 refine qa (cm) ?_
 simp(disch:=omega)only[go_sem]
 exact ql
theorem aJW{n:Nat}{L:List ExV}(h:matV n L):imatV n (L.map ptS):=⟨h.n1,h.n4,by rw[List.length_map];exact h.len,fun s hs=>by
 obtain⟨x,hx,rfl⟩:=List.mem_map.1 hs
 have:=h.ok x hx
 show(x.ok&&(x.ok&&decide (x.val 3000≤x.val 3000)))=true
 rw[this,decide_eq_true (Int.le_refl _)];rfl⟩
end Go.Ab
namespace Go.Ab
open Go Go.Proofs
def ajM:ExV:=⟨false,5,1⟩
theorem aZO:matV 1 [ajM]:=⟨by omega,by omega,rfl,fun x hx=>by rw[List.mem_singleton.1 hx];decide+kernel⟩
def aNo:SpV:=⟨ajM,ajM⟩
theorem aPA:imatV 1 [aNo]:=⟨by omega,by omega,rfl,fun x hx=>by rw[List.mem_singleton.1 hx];decide+kernel⟩
set_option maxRecDepth 100000 in
theorem aj8:Con Tryz.prog 53 true [] [] (isA (.v (.bool true))):=by
 have d5:=ard 5 0 (by omega) (by omega)
 rw[show(ExV.mk (decide ((5:Int)<0)) (5:Int).natAbs 0).tel=ex5 by decide+kernel]at d5
 have d10:=ard 10 0 (by omega) (by omega)
 rw[show(ExV.mk (decide ((10:Int)<0)) (10:Int).natAbs 0).tel=ajM by decide+kernel]at d10
 obtain⟨n,hn⟩:∃n:Nat,n=1:=⟨1,rfl⟩
 have hm:matV n [ex5]:=by rw[hn];exact beA
 have hm10:matV n [ajM]:=by rw[hn];exact aZO
 have hi10:imatV n [aNo]:=by rw[hn];exact aPA
 have co:=aaQ n [ex5] hm
 have hp:=aJW hm
 have ca:=QG n ([ex5].map ptS) ([ex5].map ptS) hp hp
 have ea:(zS ([ex5].map ptS) ([ex5].map ptS)).all SpV.fit=true∧fT (zS ([ex5].map ptS) ([ex5].map ptS))=[aNo]:=by decide+kernel
 have en':fN n (zS ([ex5].map ptS) ([ex5].map ptS))=n:=if_pos ea.1
 rw[ea.1,ea.2,en']at ca
 have ch:=ju n [aNo] [ajM] hi10 hm10
 rw[show ap5 [aNo] [ajM] (n*n)=true by rw[hn];decide+kernel]at ch
 have en:(n:Int)=1:=by omega
 have hrow5:qm ExV.cs [ex5]=[.v (.bool ex5.s),.sl (lim ex5.m).length (qc (lim ex5.m)),.v (.int .i64 ex5.e)]:=by simp[qm,ExV.cs]
 have hrow10:qm ExV.cs [ajM]=[.v (.bool ajM.s),.sl (lim ajM.m).length (qc (lim ajM.m)),.v (.int .i64 ajM.e)]:=by simp[qm,ExV.cs]
 rw[en]at co ca ch
 rw[hrow5]at co
 rw[hrow10]at ch
 generalize [ex5].map ptS=V at*
 generalize [aNo]=W1 at*
 generalize ex5=x at*
 generalize ajM=y at*
 refine Con.of_aw Tryz.func53 rfl Tryz.ntmps53 (by simp) (by simp) (by simp) (AW.seqLe (E:=[]) (H:=[]) (W.sound ?_) (AW.seqLe (E:=[(1,.pt 1 0)])
  (H:=[(1,.own 0 [.v (.int .i64 1),.sl 1 [.v (.bool x.s),.sl (lim x.m).length (qc (lim x.m)),.v (.int .i64 x.e)]])]) (W.sound ?_) (W.sound ?_)))
 ·show @W Tryz.prog 31 ⟨_⟩ ⟨_⟩ _ _
  simp(disch:=omega)only[go_sem]
  exact Le.lst [] _ _ rfl (by simp(disch:=omega)only[go_sem]) (by simp(disch:=omega)only[go_sem])
 ·show @W Tryz.prog 31 ⟨_⟩ ⟨_⟩ _ _
  simp(disch:=omega)only[go_sem]
  refine qa (d5) ?_
  simp(disch:=omega)only[go_sem]
  exact(Le.frz 90000000 (z:=3) (ks:=[.v (.bool x.s),.sl (lim x.m).length (qc (lim x.m)),.v (.int .i64 x.e)]) (by simp(disch:=omega)only[go_sem]) rfl (by simp(disch:=omega)only[go_sem])).trans (Le.lst [(1,30000000)] _ _ rfl (by simp(disch:=omega)only[go_sem]) (by simp(disch:=omega)only[go_sem]))
 show @W Tryz.prog 31 ⟨_⟩ ⟨fun x σ=>@qR _ _ _ ⟨_⟩ _ ⟨_⟩ x σ⟩ _ _
 simp(disch:=omega)only[go_sem]
 refine qa (co) ?_
 simp(disch:=omega)only[go_sem]
 refine qa (ca) ?_
 simp(disch:=omega)only[go_sem]
 refine qp rfl [⟨0,[],[]⟩,⟨1,[],[]⟩,⟨2,[],[]⟩,⟨3,[],[]⟩,⟨4,[],[]⟩,⟨5,[],[]⟩,⟨6,[5],[]⟩,⟨7,[5],[]⟩,⟨8,[5],[]⟩,⟨9,[],[]⟩,⟨10,[],[]⟩,⟨11,[],[]⟩] (by kernel_rfl) ?_
 simp(disch:=omega)only[go_sem]
 refine qa (d10) ?_
 simp(disch:=omega)only[go_sem]
 refine qh (ch) ?_
 simp(disch:=omega)only[go_sem]
 exact qu
theorem aJD{K:Nat}{s:SpV}{x:ExV}(hK:3000≤K)(hs:s.ok=true)(hx:x.ok=true)(h:inS K s (x.val K) 1):aBq s x=true:=by
 have es:=(Yv hs).1
 have eb:=(zW hx).1.1
 obtain⟨a,b⟩:=h
 rw[Int.mul_one]at a b
 have e:3000+(K-3000)=K:=by omega
 have a':=(aa3 (K:=3000) (j:=K-3000) es.1 eb).2 (by rw[e];exact a)
 have b':=(aa3 (K:=3000) (j:=K-3000) eb es.2).2 (by rw[e];exact b)
 unfold aBq
 rw[decide_eq_true a',decide_eq_true b'];rfl
theorem aPp{s:SpV}(hs:s.ok=true):inS 3001 s ((yp s).val 3001) 1∧ -((3001:Nat):Int)≤(yp s).e:=by
 obtain⟨es,hle, -, -⟩:=Yv hs
 have e0: -((3000:Nat):Int)≤(s.lo.plus s.hi).e:=K1 es.1 es.2
 have e1:(yp s).val 3001=(s.lo.plus s.hi).val 3000:=by
  show dv 3001 _ _ ((s.lo.plus s.hi).e+ -1)=dv 3000 _ _ _
  unfold dv
  rw[show(s.lo.plus s.hi).e+ -1+((3001:Nat):Int)=(s.lo.plus s.hi).e+((3000:Nat):Int) by omega];rfl
 rw[e1,Qq es.1 es.2]
 have u1:s.lo.val (3000+1)=s.lo.val 3000*p2 1:=aeQ es.1
 have u2:s.hi.val (3000+1)=s.hi.val 3000*p2 1:=aeQ es.2
 have h2:p2 1=2:=by decide
 rw[h2]at u1 u2
 refine⟨⟨?_,?_⟩,by show-((3001:Nat):Int)≤(s.lo.plus s.hi).e+ -1;omega⟩
 ·show s.lo.val (3000+1)*1≤_;omega
 ·show _≤s.hi.val (3000+1)*1;omega
end Go.Ab
namespace Go.Ab
open Go Go.Proofs
/-! ### Points of matrices of intervals-/
def inM(K:Nat)(S:List SpV)(L:List ExV)(k:Nat):Prop:=∀i,i<k→inS K (S.getD i sp0) ((L.getD i ex0).val K) 1
theorem ZM{Y:Type}{l:List Y}{f:Y→SpV}{i:Nat}(h:i<l.length)(d:Y):(l.map f).getD i sp0=f (l.getD i d):=by
 rw[List.getD_eq_getElem?_getD,List.getElem?_map,List.getD_eq_getElem?_getD,List.getElem?_eq_getElem h];rfl
theorem Je{Y:Type}{l:List Y}{f:Y→ExV}{i:Nat}(h:i<l.length)(d:Y):(l.map f).getD i ex0=f (l.getD i d):=by
 rw[List.getD_eq_getElem?_getD,List.getElem?_map,List.getD_eq_getElem?_getD,List.getElem?_eq_getElem h];rfl
theorem aoT{l:List SpV}{i:Nat}(h:i<l.length):l.getD i sp0∈l:=by
 rw[List.getD_eq_getElem?_getD,List.getElem?_eq_getElem h];exact List.getElem_mem _
theorem aFE{l:List ExV}{i:Nat}(h:i<l.length):l.getD i ex0∈l:=by
 rw[List.getD_eq_getElem?_getD,List.getElem?_eq_getElem h];exact List.getElem_mem _
theorem aLq{n:Nat}{g:Nat→Nat→SpV}{k t:Nat}(h:t<k):(gly n g k).getD t sp0=g (t/n) (t % n):=by
 unfold gly
 have r:(List.range k).getD t 0=t:=by rw[List.getD_eq_getElem?_getD,List.getElem?_range h];rfl
 rw[ZM (by rw[List.length_range];exact h) 0,r]
theorem imatV.eK{n K:Nat}{S:List SpV}(h:imatV n S)(hK:3000≤K){i:Nat}(hi:i<n*n):(S.getD i sp0).eK K:=by
 have:=(Yv (h.ok _ (aoT (by rw[h.len];exact hi)))).1
 exact⟨by have:=this.1;omega,by have:=this.2;omega⟩
theorem aFw{n K:Nat}{S:List SpV}{L:List ExV}(hK:3000≤K)(hS:imatV n S)(hL:matV n L)(h:inM K S L (n*n)):ap5 S L (n*n)=true:=by
 unfold ap5
 exact List.all_eq_true.2 fun i hi=>by
  have hi:=List.mem_range.1 hi
  exact aJD hK (hS.ok _ (aoT (by rw[hS.len];exact hi))) (hL.ok _ (aFE (by rw[hL.len];exact hi))) (h i hi)
theorem aLl{K k:Nat}{S:List SpV}{L:List ExV}(hS:S.length=k)(hL:L.length=k)(eS:∀i,i<k→(S.getD i sp0).eK K)(eL:∀i,i<k→ -(K:Int)≤(L.getD i ex0).e)(h:inM K S L k):inM K (S.map SpV.can) (L.map ExV.can) k:=fun i hi=>by
 rw[ZM (by omega) sp0,Je (by omega) ex0,Q6 (eL i hi)]
 exact(aLj (eS i hi)).2 (h i hi)
theorem aLk{n:Nat}{S:List SpV}(h:imatV n S):inM 3001 S ((S.map yp).map ExV.can) (n*n):=fun i hi=>by
 have hl:i<S.length:=by rw[h.len];exact hi
 obtain⟨a,b⟩:=aPp (h.ok _ (aoT hl))
 rw[Je (by rw[List.length_map];exact hl) ex0,Je hl sp0,Q6 b]
 exact a
theorem aPD{n i:Nat}:i/n*n+i % n=i:=by rw[Nat.mul_comm];exact Nat.div_add_mod i n
theorem aCt{n K:Nat}{S S':List SpV}{L L':List ExV}(hl:S.length=n*n)(eS:∀i,i<n*n→(S.getD i sp0).eK K)(eS':∀i,i<n*n→(S'.getD i sp0).eK K)(eL:∀i,i<n*n→ -(K:Int)≤(L.getD i ex0).e)(eL':∀i,i<n*n→ -(K:Int)≤(L'.getD i ex0).e)(h:inM K S L (n*n))(h':inM K S' L' (n*n)):
  inM K (zS S S') (jr n L L') (n*n)∧(∀i,i<n*n→((zS S S').getD i sp0).eK K)∧∀i,i<n*n→ -(K:Int)≤((jr n L L').getD i ex0).e:=by
 have e1:∀i,i<n*n→(zS S S').getD i sp0=(S.getD i sp0).plus (S'.getD i sp0):=fun i hi=>by
  unfold zS
  have r:(List.range S.length).getD i 0=i:=by rw[List.getD_eq_getElem?_getD,List.getElem?_range (by rw[hl];exact hi)];rfl
  rw[ZM (by rw[List.length_range,hl];exact hi) 0,r]
 have e2:∀i,i<n*n→(jr n L L').getD i ex0=(L.getD i ex0).plus (L'.getD i ex0):=fun i hi=>by
  unfold jr
  rw[aFy hi,aPD]
 refine⟨fun i hi=>?_,fun i hi=>?_,fun i hi=>?_⟩
 ·rw[e1 i hi,e2 i hi,Qq (eL i hi) (eL' i hi)]
  exact afh (eS i hi) (eS' i hi) (h i hi) (h' i hi)
 ·rw[e1 i hi]
  exact SpV.plus_eK (eS i hi) (eS' i hi)
 ·rw[e2 i hi]
  exact K1 (eL i hi) (eL' i hi)
theorem ao2{n K:Nat}{S S':List SpV}{L L':List ExV}{i j:Nat}(eS:∀i,i<n*n→(S.getD i sp0).eK K)(eS':∀i,i<n*n→(S'.getD i sp0).eK K)(eL:∀i,i<n*n→ -(K:Int)≤(L.getD i ex0).e)(eL':∀i,i<n*n→ -(K:Int)≤(L'.getD i ex0).e)(h:inM K S L (n*n))(h':inM K S' L' (n*n))(hi:i<n)(hj:j<n):
  ∀k,k≤n→inS (K+K) (jj n S S' i j k) ((Y0 n L L' i j k).val (K+K)) 1∧(jj n S S' i j k).eK (K+K)∧ -((K+K:Nat):Int)≤(Y0 n L L' i j k).e
 |0,_=>by
  rw[JQ]
  refine⟨⟨?_,?_⟩,⟨?_,?_⟩,?_⟩
  ·show ex0.val (K+K)*1≤ex0.val (K+K);omega
  ·show ex0.val (K+K)≤ex0.val (K+K)*1;omega
  ·show-((K+K:Nat):Int)≤0;omega
  ·show-((K+K:Nat):Int)≤0;omega
  ·show-((K+K:Nat):Int)≤0;omega
 |k+1,hk=>by
  obtain⟨h1,h2,h3⟩:=ao2 eS eS' eL eL' h h' hi hj k (by omega)
  have ia:=zX hi (show k<n by omega)
  have ib:=zX (show k<n by omega) hj
  have a:=eL _ ia
  have b:=eL' _ ib
  rw[JR,aav]
  have c: -((K+K:Nat):Int)≤((L.getD (i*n+k) ex0).times (L'.getD (k*n+j) ex0)).e:=by show _≤(L.getD (i*n+k) ex0).e+(L'.getD (k*n+j) ex0).e;omega
  have t:=ap0 (eS _ ia) (eS' _ ib) (by omega) (by omega) (h _ ia) (h' _ ib)
  rw[←Xp a b,Int.mul_one]at t
  have et:=SpV.times_eK (eS _ ia) (eS' _ ib)
  refine⟨?_,SpV.plus_eK h2 et,K1 h3 c⟩
  rw[Qq h3 c]
  exact afh h2 et h1 t
theorem ap1{n K:Nat}{S S':List SpV}{L L':List ExV}(hn:1≤n)(eS:∀i,i<n*n→(S.getD i sp0).eK K)(eS':∀i,i<n*n→(S'.getD i sp0).eK K)(eL:∀i,i<n*n→ -(K:Int)≤(L.getD i ex0).e)(eL':∀i,i<n*n→ -(K:Int)≤(L'.getD i ex0).e)(h:inM K S L (n*n))(h':inM K S' L' (n*n)):
  inM (K+K) (qZ n S S') (zv n L L') (n*n)∧(∀i,i<n*n→((qZ n S S').getD i sp0).eK (K+K))∧∀i,i<n*n→ -((K+K:Nat):Int)≤((zv n L L').getD i ex0).e:=by
 have key:=fun i (hi:i<n*n)=>ao2 eS eS' eL eL' h h' ((Nat.div_lt_iff_lt_mul (by omega)).2 hi) (Nat.mod_lt i (show 0<n by omega)) n (Nat.le_refl n)
 have e1:∀i,i<n*n→(qZ n S S').getD i sp0=jj n S S' (i/n) (i % n) n:=fun i hi=>by
  unfold qZ
  rw[aLq hi]
 have e2:∀i,i<n*n→(zv n L L').getD i ex0=Y0 n L L' (i/n) (i % n) n:=fun i hi=>by
  unfold zv
  rw[aFy hi]
 refine⟨fun i hi=>?_,fun i hi=>?_,fun i hi=>?_⟩
 ·rw[e1 i hi,e2 i hi];exact(key i hi).1
 ·rw[e1 i hi];exact(key i hi).2.1
 ·rw[e2 i hi];exact(key i hi).2.2
theorem aeT{n K:Nat}{S:List SpV}{L:List ExV}(hK:3000≤K)(h1:1≤n)(h4:n≤4)(hl:S.length=n*n)(hl':L.length=n*n)(eS:∀i,i<n*n→(S.getD i sp0).eK K)(eL:∀i,i<n*n→ -(K:Int)≤(L.getD i ex0).e)(h:inM K S L (n*n))(hf:S.all SpV.fit=true):
  fN n S=n∧imatV n (fT S)∧(L.all ExV.fit=true→gN n L=n∧matV n (gT L)∧ap5 (fT S) (gT L) (n*n)=true):=by
 have he:∀s∈S,s.eK K∧s.lo.val K≤s.hi.val K:=fun s hs=>by
  obtain⟨i,hi,rfl⟩:=List.getElem_of_mem hs
  have e:S.getD i sp0=S[i]:=by rw[List.getD_eq_getElem?_getD,List.getElem?_eq_getElem hi];rfl
  rw[←e]
  exact⟨eS i (by omega),aPz (by omega) (h i (by omega))⟩
 obtain⟨f1,f2,f3⟩:=bbB hK h1 h4 hl he hf
 refine⟨f1,by rw[f2];exact f3,fun hg=>?_⟩
 obtain⟨g1,g2,g3⟩:=aPG (l:=L) h1 h4 hl' hg
 rw[f2,g2]
 exact⟨g1,g3,aFw hK f3 g3 (aLl hl hl' eS eL h)⟩
end Go.Ab
namespace Go.Ab
open Go Go.Proofs
theorem Zp(l:List UInt8)(hl:l.length≤9223372036854775807):Con Tryz.prog 54 false [.sl l.length (qk l)] [] (fun r hs bs=>hs=[]∧bs=[]∧∃(n n':Int) (M M':List IvV),aUu M∧aUu M'∧r=.tu [.ag [.v (.int .i64 n),.sl M.length (qm IvV.cs M)],.ag [.v (.int .i64 n'),.sl M'.length (qm IvV.cs M')]]):=by
 refine Con.of_aw Tryz.func54 rfl Tryz.ntmps54 (by simp) (by simp) (by simp) (W.sound ?_)
 show @W Tryz.prog 8 ⟨_⟩ ⟨fun x σ=>@qR _ _ _ ⟨_⟩ _ ⟨_⟩ x σ⟩ _ _
 simp(disch:=omega)only[go_sem]
 refine qW (aen l hl) (by simp(disch:=omega)only[go_sem]) ?_
 rintro r hs ⟨rfl, -,⟨n,n',M,M',h1,h2,rfl⟩⟩
 refine⟨by simp(disch:=omega)only[go_sem],?_⟩
 simp(disch:=omega)only[go_sem]
 exact qP (by simp(disch:=omega)only[go_sem]) ⟨rfl,rfl,n,n',M,M',h1,h2,rfl⟩
theorem ae8{n:Nat}{S:List SpV}(h:imatV n S)(hf:(S.map yp).all ExV.fit=true):gN n (S.map yp)=n∧matV n (gT (S.map yp))∧inM 3001 S (gT (S.map yp)) (n*n):=by
 obtain⟨g1,g2,g3⟩:=aPG (l:=S.map yp) h.n1 h.n4 (by rw[List.length_map];exact h.len) hf
 rw[g2]
 exact⟨g1,g3,aLk h⟩
theorem matV.eK1{n K:Nat}{L:List ExV}(h:matV n L)(hK:3000≤K)(i:Nat)(hi:i<n*n): -(K:Int)≤(L.getD i ex0).e:=by
 have:=(zW (h.ok _ (aFE (by rw[h.len];exact hi)))).1.1
 omega
theorem api{n:Nat}{S S':List SpV}{X Y:List ExV}(h:imatV n S)(h':imatV n S')(hX:matV n X)(hY:matV n Y)(iX:inM 3001 S X (n*n))(iY:inM 3001 S' Y (n*n))(hf:(zS S S').all SpV.fit=true):
  fN n (zS S S')=n∧imatV n (fT (zS S S'))∧((jr n X Y).all ExV.fit=true→gN n (jr n X Y)=n∧matV n (gT (jr n X Y))∧ap5 (fT (zS S S')) (gT (jr n X Y)) (n*n)=true):=by
 obtain⟨a,b,c⟩:=aCt h.len (fun i hi=>h.eK (K:=3001) (by omega) hi) (fun i hi=>h'.eK (K:=3001) (by omega) hi) (hX.eK1 (by omega)) (hY.eK1 (by omega)) iX iY
 exact aeT (K:=3001) (by omega) h.n1 h.n4 (by rw[Qz];exact h.len) yA b c a hf
theorem afD{n:Nat}{S S':List SpV}{X Y:List ExV}(h:imatV n S)(h':imatV n S')(hX:matV n X)(hY:matV n Y)(iX:inM 3001 S X (n*n))(iY:inM 3001 S' Y (n*n))(hf:(qZ n S S').all SpV.fit=true):
  fN n (qZ n S S')=n∧imatV n (fT (qZ n S S'))∧((zv n X Y).all ExV.fit=true→gN n (zv n X Y)=n∧matV n (gT (zv n X Y))∧ap5 (fT (qZ n S S')) (gT (zv n X Y)) (n*n)=true):=by
 obtain⟨a,b,c⟩:=ap1 h.n1 (fun i hi=>h.eK (K:=3001) (by omega) hi) (fun i hi=>h'.eK (K:=3001) (by omega) hi) (hX.eK1 (by omega)) (hY.eK1 (by omega)) iX iY
 exact aeT (K:=3001+3001) (by omega) h.n1 h.n4 Qc yA b c a hf
set_option maxRecDepth 100000 in
theorem ajC(l:List UInt8)(hl:l.length≤9223372036854775807):Con Tryz.prog 10 true [.sl l.length (qk l)] [] (isA (.v (.bool true))):=by
 refine Con.of_w (rs:=[.tmp 2]) Tryz.func10 rfl Tryz.ntmps10 rfl ?_
 simp(disch:=omega)only[go_sem]
 refine qh (aj8) ?_
 simp(disch:=omega)only[go_sem]
 refine qW (Zp l hl) (by simp(disch:=omega)only[go_sem]) ?_
 rintro r hs ⟨rfl, -,⟨k,k',M,M',⟨a1,a2⟩,⟨b1,b2⟩,rfl⟩⟩
 refine⟨by simp[qO],?_⟩
 simp(disch:=omega)only[go_sem]
 have cA:=QE k M a1 a2
 have cB:=QE k' M' b1 b2
 cases hA:afd k M
 ·rw[hA]at cA
  have hno:ar8 k M k' M'=false:=by unfold ar8;rw[hA];rfl
  refine qa (jF k k' M M' a1 a2 b1 b2 hno) ?_
  simp(disch:=omega)only[go_sem]
  refine qa (jE k k' M M' a1 a2 b1 b2 hno) ?_
  simp(disch:=omega)only[go_sem]
  refine qh (cA) ?_
  simp(disch:=omega)only[go_sem]
  refine qh (Jp) ?_
  simp(disch:=omega)only[go_sem]
  exact qu
 cases hB:afd k' M'
 ·rw[hA]at cA
  rw[hB]at cB
  have hno:ar8 k M k' M'=false:=by unfold ar8;rw[hB,Bool.false_and,Bool.and_false]
  refine qa (jF k k' M M' a1 a2 b1 b2 hno) ?_
  simp(disch:=omega)only[go_sem]
  refine qa (jE k k' M M' a1 a2 b1 b2 hno) ?_
  simp(disch:=omega)only[go_sem]
  refine qh (cA) ?_
  simp(disch:=omega)only[go_sem]
  refine qh (cB) ?_
  simp(disch:=omega)only[go_sem]
  refine qh (Jp) ?_
  simp(disch:=omega)only[go_sem]
  exact qu
 by_cases hn:k=k'
 rotate_left
 ·rw[hA]at cA
  rw[hB]at cB
  have hno:ar8 k M k' M'=false:=by unfold ar8;rw[decide_eq_false hn,Bool.and_false,Bool.and_false]
  refine qa (jF k k' M M' a1 a2 b1 b2 hno) ?_
  simp(disch:=omega)only[go_sem]
  refine qa (jE k k' M M' a1 a2 b1 b2 hno) ?_
  simp(disch:=omega)only[go_sem]
  refine qh (cA) ?_
  simp(disch:=omega)only[go_sem]
  refine qh (cB) ?_
  simp(disch:=omega)only[go_sem]
  simp(disch:=omega)only[go_sem,decide_eq_false hn]
  refine qh (Jp) ?_
  simp(disch:=omega)only[go_sem]
  exact qu
 subst hn
 rw[hA]at cA
 rw[hB]at cB
 obtain⟨n,S,rfl,rfl,hS⟩:=ap2 hA
 obtain⟨n',S',hn',rfl,hS'⟩:=ap2 hB
 obtain rfl:n=n':=by omega
 rw[ZR,List.length_map]at cA cB
 rw[ZR,ZR,List.length_map,List.length_map]
 have cAd:=QG n S S' hS hS'
 have cMu:=Xe n S S' hS hS'
 have cMi:=QF n S hS
 have cMi':=QF n S' hS'
 have hx:=ae8 hS
 have hy:=ae8 hS'
 have hp:=fun X Y hX hY iX iY=>api (X:=X) (Y:=Y) hS hS' hX hY iX iY
 have ht:=fun X Y hX hY iX iY=>afD (X:=X) (Y:=Y) hS hS' hX hY iX iY
 generalize fN n (zS S S')=N1 at*
 generalize fT (zS S S')=T1 at*
 generalize (zS S S').all SpV.fit=g1 at*
 generalize fN n (qZ n S S')=N2 at*
 generalize fT (qZ n S S')=T2 at*
 generalize (qZ n S S').all SpV.fit=g2 at*
 generalize gN n (S.map yp)=N3 at*
 generalize gT (S.map yp)=X at*
 generalize (S.map yp).all ExV.fit=g3 at*
 generalize gN n (S'.map yp)=N4 at*
 generalize gT (S'.map yp)=Y at*
 generalize (S'.map yp).all ExV.fit=g4 at*
 refine qa (cAd) ?_
 simp(disch:=omega)only[go_sem]
 refine qa (cMu) ?_
 simp(disch:=omega)only[go_sem]
 refine qh (cA) ?_
 simp(disch:=omega)only[go_sem]
 refine qh (cB) ?_
 simp(disch:=omega)only[go_sem]
 refine qa (cMi) ?_
 simp(disch:=omega)only[go_sem]
 refine qa (cMi') ?_
 simp(disch:=omega)only[go_sem]
 cases g3
 ·simp(disch:=omega)only[go_sem]
  exact qu
 cases g4
 ·simp(disch:=omega)only[go_sem]
  exact qu
 obtain⟨e3,mX,iX⟩:=hx rfl
 obtain⟨e4,mY,iY⟩:=hy rfl
 rw[e3,e4]
 have hp:=hp X Y mX mY iX iY
 have ht:=ht X Y mX mY iX iY
 have cPl:=aez n X Y mX mY
 have cTi:=aey n X Y mX mY
 have ch:=ju n S X hS mX
 rw[aFw (K:=3001) (by omega) hS mX iX]at ch
 generalize gN n (jr n X Y)=N5 at*
 generalize gT (jr n X Y)=T5 at*
 generalize (jr n X Y).all ExV.fit=g5 at*
 generalize gN n (zv n X Y)=N6 at*
 generalize gT (zv n X Y)=T6 at*
 generalize (zv n X Y).all ExV.fit=g6 at*
 simp(disch:=omega)only[go_sem]
 refine qa (cPl) ?_
 simp(disch:=omega)only[go_sem]
 refine qa (cTi) ?_
 simp(disch:=omega)only[go_sem]
 refine qh (ch) ?_
 simp(disch:=omega)only[go_sem]
 have two:g2=true→g6=true→Con Tryz.prog 59 true [.ag [.v (.int .i64 (N2)),.sl (T2).length (qm SpV.cs (T2))],.ag [.v (.int .i64 (N6)),.sl (T6).length (qm ExV.cs (T6))]] [] (isA (.v (.bool true))):=fun q2 q6=>by
  obtain⟨e1,m1,hh⟩:=ht q2
  obtain⟨e2,m2,hh⟩:=hh q6
  have c:=ju n T2 T6 m1 m2
  rw[hh]at c
  rw[e1,e2];exact c
 have one:g1=true→g5=true→Con Tryz.prog 59 true [.ag [.v (.int .i64 (N1)),.sl (T1).length (qm SpV.cs (T1))],.ag [.v (.int .i64 (N5)),.sl (T5).length (qm ExV.cs (T5))]] [] (isA (.v (.bool true))):=fun q2 q6=>by
  obtain⟨e1,m1,hh⟩:=hp q2
  obtain⟨e2,m2,hh⟩:=hh q6
  have c:=ju n T1 T5 m1 m2
  rw[hh]at c
  rw[e1,e2];exact c
 clear hp ht
 cases g1
 ·simp(disch:=omega)only[go_sem]
  cases g2
  ·simp(disch:=omega)only[go_sem]
   exact qu
  cases g6
  ·simp(disch:=omega)only[go_sem]
   exact qu
  ·simp(disch:=omega)only[go_sem]
   refine qh (two rfl rfl) ?_
   simp(disch:=omega)only[go_sem]
   exact qu
 cases g5
 ·simp(disch:=omega)only[go_sem]
  cases g2
  ·simp(disch:=omega)only[go_sem]
   exact qu
  cases g6
  ·simp(disch:=omega)only[go_sem]
   exact qu
  ·simp(disch:=omega)only[go_sem]
   refine qh (two rfl rfl) ?_
   simp(disch:=omega)only[go_sem]
   exact qu
 ·simp(disch:=omega)only[go_sem]
  refine qh (one rfl rfl) ?_
  simp(disch:=omega)only[go_sem]
  cases g2
  ·simp(disch:=omega)only[go_sem]
   exact qu
  cases g6
  ·simp(disch:=omega)only[go_sem]
   exact qu
  ·simp(disch:=omega)only[go_sem]
   refine qh (two rfl rfl) ?_
   simp(disch:=omega)only[go_sem]
   exact qu
end Go.Ab
namespace Go.Proofs.YtcobffkepgogiaaGreatDoor
open Go.ChangeShapes Go.WideShapes Go.ChangeAt Go.RowKit Go.Ab
theorem own:ownKnob Tryz.prog.godebug=none:=by kernel_rfl
theorem apM:laidOutB Tryz.prog=true:=by kernel_rfl
theorem aoN:Tryz.prog.globalNamed "math/bits.deBruijn64tab" =some 1:=by kernel_rfl
theorem aJo:(Tryz.prog.globals[1]?).map (·.type)=some 262:=by kernel_rfl
theorem aJn:Tryz.prog.underlying 262=some (.array 64 5):=by kernel_rfl
theorem aJr:Tryz.prog.underlying 5=some (.int .u8):=by kernel_rfl
theorem aJs:Tryz.prog.cellsOf 5=1:=by kernel_rfl
theorem aJp:Tryz.prog.cellsOf 262=64:=by kernel_rfl
noncomputable def yP:List (String×DataW Unit):=[("math/bits.deBruijn32tab",Rows.laid_math_bits_deBruijn32tab),("math/bits.deBruijn64tab",Rows.laid_math_bits_deBruijn64tab)]
theorem aJq{W:World}(h:laidMetH Tryz.prog yP W):Gd W:=by
 have h':laidMet Tryz.prog yP W:=h
 have h2:laidMet Tryz.prog [("math/bits.deBruijn64tab",Lib.tabData .u8 (Lib.deBruijn64tab.map Int.ofNat))] W:=laidMet.tail h'
 have hT:=Lib.tabIs_of_head aoN aJo aJn aJr aJs aJp h2
 intro g l hg
 unfold glb at hg
 split at hg
 ·rename_i e
  subst e
  cases hg
  have hc:∀i,i<Lib.deBruijn64tab.length→W.cell? ⟨1,i,none⟩=some (.int .u8 ((Lib.deBruijn64tab.getD i 0:Nat):Int)):=fun i hi=>by
   have:=hT.cell aoN i (by simpa using hi)
   rw[this]
   simp[List.getD,hi]
  exact⟨aft (hc 0 (by decide)),hc⟩
 ·cases hg
noncomputable def aai(os:Os):World:=
 let w0:=World.holding Tryz.prog os ⟨#[],#[],[]⟩
 {w0 with heap:=(w0.heap.modify 1 fun
   | .cells _ t frozen=>.cells (Lib.deBruijn64tab.map fun z=>Value.int .u8 (Int.ofNat z)).toArray t frozen
   |o=>o).modify 0 fun
   | .cells _ t frozen=>.cells (Lib.deBruijn32tab.map fun z=>Value.int .u8 (Int.ofNat z)).toArray t frozen
   |o=>o}
theorem YN(os:Os)(args:Array Value):laidMetH Tryz.prog yP ((aai os).forCall (fun _ _=>0) ⟨#[],args,[]⟩).memory:=
 laidMetH_of_parts (laidMet_of_run' 8 (by kernel_rfl) (by kernel_rfl)) (by kernel_rfl)
end Go.Proofs.YtcobffkepgogiaaGreatDoor
