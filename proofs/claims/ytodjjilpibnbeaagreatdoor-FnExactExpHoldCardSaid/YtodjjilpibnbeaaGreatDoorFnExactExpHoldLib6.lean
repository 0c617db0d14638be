/- What the proof of this claim stands on: the walks of the functions and the plain laws, part 6. -/
import Derived.Test.YtodjjilpibnbeaaGreatDoorFnExactExpHoldLib5
set_option linter.unusedVariables false
set_option linter.unusedSimpArgs false
namespace Go.Ab
open Go Go.Proofs
theorem VY(k:Int)(M:List IvV)(h1:M.length≤16)(h2:∀v∈M,aWN v):Con Tryz.prog 129 true [.ag [.v (.int .i64 k),.sl M.length (ql IvV.cs M)]] [] (isA (.v (.bool (aNs k M)))):=by
 unfold aNs
 refine Con.of_w (rs:=[.tmp 2]) Tryz.func129 rfl Tryz.ntmps129 rfl ?_
 simp(disch:=omega)only[go_sem]
 by_cases c1:k<1
 ·rw[decide_eq_false (show ¬1≤k by omega),Bool.false_and,Bool.false_and]
  simp(disch:=omega)only[go_sem,c1]
  exact qy
 by_cases c2:4<k
 ·rw[decide_eq_false (show ¬k≤4 by omega),Bool.and_false,Bool.false_and]
  simp(disch:=omega)only[go_sem,c1,c2]
  exact qy
 rw[decide_eq_true (show 1≤k by omega),decide_eq_true (show k≤4 by omega),Bool.true_and,Bool.true_and]
 have hq:0≤k*k∧k*k≤16:=⟨Int.mul_nonneg (by omega) (by omega),Int.mul_le_mul (show k≤4 by omega) (show k≤4 by omega) (by omega) (by omega)⟩
 by_cases c3:(M.length:Int)=k*k
 rotate_left
 ·rw[decide_eq_false c3,Bool.false_and]
  simp(disch:=omega)only[go_sem,c1,c2,decide_eq_false c3]
  exact qy
 rw[decide_eq_true c3,Bool.true_and]
 simp(disch:=omega)only[go_sem,c1,c2,decide_eq_true c3]
 refine qj (fun i:Nat=>[(1,.pt 1 0),(2,.v (.bool false)),(3,.v (.int .i64 i))]) (fun _=>[(1,.own 0 [.v (.int .i64 k),.sl M.length (ql IvV.cs M)])]) (fun i=>i≤M.length∧∀j,j<i→ivB (M.getD j iv0)=true) (fun i=>M.length-i) 0 ⟨by omega,fun j hj=>by omega⟩
  (Le.lst [(1,30000000)] _ _ rfl (by simp(disch:=omega)only[go_sem]) (by simp(disch:=omega)only[go_sem])) ?_
 rintro i ⟨hi,hp⟩
 simp(disch:=omega)only[go_sem]
 refine qi (fun h3=>?_) (fun h3=>?_)
 ·have hcut:=Qn (l:=M) aNu (i:=i) (by omega) iv0
  have hmem:M.getD i iv0∈M:=by
   rw[List.getD_eq_getElem?_getD,List.getElem?_eq_getElem (by omega)];exact List.getElem_mem _
  have cd:=axe (M.getD i iv0) (h2 _ hmem)
  have hall:ivB (M.getD i iv0)=false→M.all ivB=false:=fun h=>List.all_eq_false.2 ⟨_,hmem,by rw[h];simp⟩
  have hnext:ivB (M.getD i iv0)=true→∀j,j<i+1→ivB (M.getD j iv0)=true:=fun h j hj=>by
   rcases(by omega:j<i∨j=i)with h'|rfl
   ·exact hp j h'
   ·exact h
  generalize ivB (M.getD i iv0)=b at*
  generalize M.getD i iv0=d at*
  change cut (ql IvV.cs M) (i*6) 6=[.v (.bool d.lo.s),.sl d.lo.xs.length (qg d.lo.xs),.v (.int .i64 d.lo.e),.v (.bool d.hi.s),.sl d.hi.xs.length (qg d.hi.xs),.v (.int .i64 d.hi.e)]at hcut
  simp(disch:=omega)only[go_sem,h3,hcut]
  refine⟨by omega,by omega,qn cd ?_⟩
  simp(disch:=omega)only[go_sem]
  cases b
  ·rw[hall rfl]
   simp(disch:=omega)only[go_sem]
   exact qy
  ·simp(disch:=omega)only[go_sem]
   exact qe (i+1) [] ⟨by omega,hnext rfl⟩ (by show M.length-(i+1)<M.length-i;omega) rfl (by simp(disch:=omega)only[go_sem];try omega) (by simp(disch:=omega)only[go_sem])
 ·simp(disch:=omega)only[go_sem,h3]
  have hall:M.all ivB=true:=List.all_eq_true.2 fun d hd=>by
   obtain⟨j,hj,rfl⟩:=List.getElem_of_mem hd
   have:=hp j (by omega)
   rw[List.getD_eq_getElem?_getD,List.getElem?_eq_getElem hj]at this
   exact this
  rw[hall]
  exact qy
end Go.Ab
namespace Go.Ab
open Go Go.Proofs
def boG:ExV:=⟨false,5,1⟩
def br0:SpV:=⟨boG,boG⟩
end Go.Ab
namespace Go.Ab
open Go Go.Proofs
/-! ### Points of matrices of intervals-/
def inM(K:Nat)(S:List SpV)(L:List ExV)(k:Nat):Prop:=∀i,i<k→inS K (S.getD i sp0) ((L.getD i ex0).val K) 1
theorem zR{Y:Type}{l:List Y}{f:Y→SpV}{i:Nat}(h:i<l.length)(d:Y):(l.map f).getD i sp0=f (l.getD i d):=by
 rw[List.getD_eq_getElem?_getD,List.getElem?_map,List.getD_eq_getElem?_getD,List.getElem?_eq_getElem h];rfl
theorem aXK{l:List SpV}{i:Nat}(h:i<l.length):l.getD i sp0∈l:=by
 rw[List.getD_eq_getElem?_getD,List.getElem?_eq_getElem h];exact List.getElem_mem _
theorem aND{l:List ExV}{i:Nat}(h:i<l.length):l.getD i ex0∈l:=by
 rw[List.getD_eq_getElem?_getD,List.getElem?_eq_getElem h];exact List.getElem_mem _
theorem Vy{n:Nat}{g:Nat→Nat→SpV}{k t:Nat}(h:t<k):(gly n g k).getD t sp0=g (t/n) (t % n):=by
 unfold gly
 have r:(List.range k).getD t 0=t:=by rw[List.getD_eq_getElem?_getD,List.getElem?_range h];rfl
 rw[zR (by rw[List.length_range];exact h) 0,r]
theorem imatV.eK{n K:Nat}{S:List SpV}(h:imatV n S)(hK:3000≤K){i:Nat}(hi:i<n*n):(S.getD i sp0).eK K:=by
 have:=(aiy (h.ok _ (aXK (by rw[h.len];exact hi)))).1
 exact⟨by have:=this.1;omega,by have:=this.2;omega⟩
theorem aNx{n i:Nat}:i/n*n+i % n=i:=by rw[Nat.mul_comm];exact Nat.div_add_mod i n
end Go.Ab
namespace Go.Ab
open Go Go.Proofs
/-! ### Widened,rounded and divided matrices of intervals-/
end Go.Ab
namespace Go.Ab
open Go Go.Proofs
def bre(s t:SpV):Bool:=decide ((avi s t).lo.val 3000≤(avi s t).hi.val 3000)
def dgO(n:Nat)(y:ExV):Nat→List (Option ExV)
 |0=>List.replicate (n*n) none
 |k+1=>(dgO n y k).set (k*n+k) (some y)
theorem ahw{n k:Nat}{y:ExV}:(dgO n y k).length=n*n:=by
 induction k with
 |zero=>simp[dgO]
 |succ k ih=>simp[dgO,ih]
def dgE(n:Nat)(y:ExV):List ExV:=(dgO n y n).map fun o=>o.getD ex0
end Go.Ab
namespace Go.Ab
open Go Go.Proofs
def boL(s:SpV):ExV:=s.hi.plus s.lo.neg
end Go.Ab
namespace Go.Ab
open Go Go.Proofs
def ex3:ExV:=⟨false,3,0⟩
end Go.Ab
namespace Go.Ab
open Go Go.Proofs
/-! ### What is held of the exponential of any matrix-/
theorem aTe{s:Bool}{m1:Nat}{e1:Int}{m2:Nat}{e2 low mode:Int}(h0:m2≠0):(bl (ovQ s m1 e1 m2 e2 low mode):Int)≤(if(bl m1:Int)+(e1-e2-low)≤0 then 0 else(bl m1:Int)+(e1-e2-low))+1:=by
 have h1:=jg (aSk s (ovA m1 (e1-e2-low)) (ovA m2 (-(e1-e2-low))) mode)
 have h2:=Ja (ovA m1 (e1-e2-low)/ovA m2 (-(e1-e2-low)))
 have h3:(bl (ovA m1 (e1-e2-low)/ovA m2 (-(e1-e2-low))):Int)≤if(bl m1:Int)+(e1-e2-low)≤0 then 0 else(bl m1:Int)+(e1-e2-low):=by
  rcases Int.le_total 0 (e1-e2-low)with g|g
  ·have a:=y8 (ovA m1 (e1-e2-low)) (ovA m2 (-(e1-e2-low)))
   have b:=Q7 m1 (e1-e2-low).toNat
   have c:(bl (ovA m1 (e1-e2-low)):Int)≤bl m1+(e1-e2-low):=by unfold ovA;omega
   split<;>omega
  ·have e:ovA m1 (e1-e2-low)=m1:=by unfold ovA;rw[show(e1-e2-low).toNat=0 by omega];simp
   have a:ovA m1 (e1-e2-low)/ovA m2 (-(e1-e2-low))≤m1/2^(-(e1-e2-low)).toNat:=by
    rw[e]
    refine Nat.div_le_div_left ?_ (Nat.pow_pos (by decide))
    unfold ovA
    exact Nat.le_mul_of_pos_left _ (by omega)
   have b:=jg a
   have c:=aNO m1 (-(e1-e2-low)).toNat
   split<;>omega
 unfold ovQ
 omega
theorem ExV.over_bd2{l1 h1 low mode hi:Int}{x y:ExV}(hx:x.bd l1 h1)(h0:y.m≠0)(hy:0≤y.e)(h:h1+1≤hi)(hb:low+1≤hi):(x.over y low mode).bd low hi:=by
 obtain⟨a1,a2,a3⟩:=hx
 refine⟨fun h=>?_,Int.le_refl _,?_⟩
 ·have h:ovQ (x.s != y.s) x.m x.e y.m y.e low mode=0:=h
  show((x.s != y.s)&&decide (ovQ (x.s != y.s) x.m x.e y.m y.e low mode≠0))=false
  rw[decide_eq_false (by rw[h];simp),Bool.and_false]
 ·have:=@aTe (x.s != y.s) x.m x.e y.m y.e low mode h0
  show(bl (ovQ (x.s != y.s) x.m x.e y.m y.e low mode):Int)+low≤hi
  split at this<;>omega
theorem SpV.divd_bd{s:SpV}{lo hi low H:Int}{k:Nat}(hs:s.bd lo hi)(hk:k≠0)(h:hi+1≤H)(hb:low+1≤H):(s.divd k low).bd low H:=by
 have he:∀mode,gbd low H (qG (fun x y=>x.over y low mode) s ⟨exN k,exN k⟩):=by
  intro mode x hx
  have h0:(exN k).m≠0:=hk
  have h1:0≤(exN k).e:=Int.le_refl 0
  simp only[qG,List.mem_cons,List.not_mem_nil,or_false]at hx
  rcases hx with rfl|rfl|rfl|rfl
  ·exact ExV.over_bd2 hs.1 h0 h1 h hb
  ·exact ExV.over_bd2 hs.1 h0 h1 h hb
  ·exact ExV.over_bd2 hs.2 h0 h1 h hb
  ·exact ExV.over_bd2 hs.2 h0 h1 h hb
 exact⟨Zq (he 3) (by simp[qG]),Zn (he 2) (by simp[qG])⟩
theorem Yt{n:Nat}:(gId n).length=n*n:=jS
theorem aZO{n:Nat}:gbd 0 1 (gId n):=bl7 fun i j hi hj=>by
 unfold idF
 split
 ·exact⟨(fun h=>by cases h),Int.le_refl _,by show(bl 1:Int)+0≤1;have:bl 1≤1:=q9.2 (by decide);omega⟩
 ·exact Yy (by omega) (by omega)
def hvN(y:ExV):Nat:=if y.m=0 then 0 else(y.top+1).toNat
def gSt(n:Nat)(b:List SpV)(w:Int):Nat→List SpV×List SpV
 |0=>((gId n).map ptS,(gId n).map ptS)
 |i+1=>(yD (gSt n b w i).1 ((qP n (gSt n b w i).2 b).map fun s=>s.divd (i+1) w),(qP n (gSt n b w i).2 b).map fun s=>s.divd (i+1) w)
def gSq(n:Nat)(w:Int)(F:List SpV):Nat→List SpV
 |0=>F
 |k+1=>(qP n (gSq n w F k) (gSq n w F k)).map fun s=>s.out w
def gFt(n:Nat)(b:List SpV)(B:Nat):List SpV:=(gSt n b (-(B:Int)) (tmF B)).1.map fun s=>s.fat (ex1.shift (-(B:Int)))
def gB(n:Nat)(L:List ExV)(s:Nat):List SpV:=(zv n L (ex1.shift (-(s:Int)))).map ptS
def yC(n:Nat)(L:List ExV)(s B:Nat)(low:Int):List SpV:=(gSq n (-(B:Int)) (gFt n (gB n L s) B) s).map fun s=>s.out (low-4)
theorem zL{n:Nat}{b:List SpV}{w:Int}:∀i,(gSt n b w i).1.length=n*n∧(gSt n b w i).2.length=n*n
 |0=>by
  have:((gId n).map ptS).length=n*n:=by rw[List.length_map];exact Yt
  exact⟨this,this⟩
 |i+1=>⟨acY.trans (zL i).1,by show(List.map _ _).length=n*n;rw[List.length_map];exact zS⟩
theorem y5{n:Nat}{w:Int}{F:List SpV}(hF:F.length=n*n):∀k,(gSq n w F k).length=n*n
 |0=>hF
 |k+1=>by show(List.map _ _).length=n*n;rw[List.length_map];exact zS
theorem X7{lo hi lo' hi':Int}{l:List SpV}{f:SpV→SpV}(h:sbd lo hi l)(hf:∀s:SpV,s.bd lo hi→(f s).bd lo' hi'):sbd lo' hi' (l.map f):=fun x hx=>by
 obtain⟨s,hs,rfl⟩:=List.mem_map.1 hx
 exact hf s (h s hs)
theorem acN{n:Nat}{b:List SpV}{B:Nat}(hn:n≤4)(hB:1≤B)(hl:b.length=n*n)(hb:sbd (-3100) 0 b):∀i:Nat,sbd (-(B:Int)) (1+7*i) (gSt n b (-(B:Int)) i).1∧sbd (-(B:Int)) (1+6*i) (gSt n b (-(B:Int)) i).2∧sbd (-(B:Int)-3100) (5+6*i) (qP n (gSt n b (-(B:Int)) i).2 b)
 |i=>by
  have key:sbd (-(B:Int)) (1+7*i) (gSt n b (-(B:Int)) i).1∧sbd (-(B:Int)) (1+6*i) (gSt n b (-(B:Int)) i).2:=by
   cases i with
   |zero=>
    have h0:sbd (-(B:Int)) 1 ((gId n).map ptS):=fun x hx=>by
     obtain⟨y,hy,rfl⟩:=List.mem_map.1 hx
     have:=aZO y hy
     exact⟨this.mono (by omega) (by omega),this.mono (by omega) (by omega)⟩
    exact⟨h0,h0⟩
   |succ i=>
    obtain⟨g1,g2,g3⟩:=acN hn hB hl hb i
    have h2:sbd (-(B:Int)) (1+6*((i+1:Nat):Int)) (gSt n b (-(B:Int)) (i+1)).2:=X7 g3 fun s hs=>SpV.divd_bd hs (by omega) (by omega) (by omega)
    refine⟨?_,h2⟩
    have:=aKV (lo:= -(B:Int)) (hi:=7+7*(i:Int)) (l:=(gSt n b (-(B:Int)) i).1) (l':=(gSt n b (-(B:Int)) (i+1)).2) (by rw[(zL (i+1)).2,(zL i).1]) (qH g1 (by omega) (by omega)) (qH h2 (by omega) (by omega))
    exact qH this (by omega) (by omega)
  refine⟨key.1,key.2,?_⟩
  have:=acX (zL i).2 hl key.2 hb (by omega)
  exact qH this (by omega) (by omega)
theorem apw{B:Nat}(hB:B≤148):tmF B≤40:=by
 have h:fct 41*2^40≥2^148:=by decide+kernel
 have key:∀f k:Nat,k≤40→tmS B k f≤40:=by
  intro f
  induction f with
  |zero=>intro k _;show(0:Nat)≤40;omega
  |succ f ih=>
   intro k hk
   unfold tmS
   split
   ·rename_i c
    by_cases e:k=40
    ·subst e
     have c:fct 41*2^40<2^B:=c
     have:=Nat.pow_le_pow_right (n:=2) (by decide) hB
     omega
    ·exact ih (k+1) (by omega)
   ·exact hk
 exact key 402 1 (by omega)
theorem acO{n:Nat}{b:List SpV}{B:Nat}(hn:n≤4)(hB:1≤B∧B≤148)(hl:b.length=n*n)(hb:sbd (-3100) 0 b):sbd (-(B:Int)) 282 (gFt n b B):=by
 have h1:=apw hB.2
 have h2:=(acN hn hB.1 hl hb (tmF B)).1
 refine X7 (qH h2 (Int.le_refl _) (show _≤(281:Int) by omega)) fun s hs=>?_
 have hy:(ex1.shift (-(B:Int))).bd (-(B:Int)) 281:=⟨(fun h=>by cases h),by show _≤(0:Int)+ -(B:Int);omega,by show(bl 1:Int)+(0+ -(B:Int))≤281;have:bl 1≤1:=q9.2 (by decide);omega⟩
 exact SpV.fat_bd hs hy
theorem Xx{n:Nat}{F:List SpV}{B:Nat}(hn:n≤4)(hB:1≤B)(hF:F.length=n*n)(hb:sbd (-(B:Int)) 282 F):∀k:Nat,sbd (-((B*2^k:Nat):Int)) (287*2^k-5:Nat) (gSq n (-(B:Int)) F k)∧sbd (-((B*2^(k+1):Nat):Int)) (287*2^(k+1)-6:Nat) (qP n (gSq n (-(B:Int)) F k) (gSq n (-(B:Int)) F k))
 |k=>by
  have hp:1≤2^k:=Nat.pow_pos (by decide)
  have e1:B*2^(k+1)=B*2^k+B*2^k:=by rw[Nat.pow_succ,←Nat.mul_assoc];omega
  have e2:(2:Nat)^(k+1)=2*2^k:=by rw[Nat.pow_succ];omega
  have hBk:B≤B*2^k:=Nat.le_mul_of_pos_right B hp
  have key:sbd (-((B*2^k:Nat):Int)) (287*2^k-5:Nat) (gSq n (-(B:Int)) F k):=by
   cases k with
   |zero=>exact qH hb (by simp) (by simp)
   |succ k=>
    have g:=(Xx hn hB hF hb k).2
    have hp':1≤2^k:=Nat.pow_pos (by decide)
    have e2':(2:Nat)^(k+1)=2*2^k:=by rw[Nat.pow_succ];omega
    have hBk':B≤B*2^(k+1):=Nat.le_mul_of_pos_right B (Nat.pow_pos (by decide))
    generalize B*2^(k+1)=P at*
    generalize 2^(k+1)=Q at*
    refine X7 g fun s hs=>?_
    have:=SpV.out_bd (low:= -(B:Int)) hs (by omega) (by omega)
    exact SpV.bd.mono this (Int.le_refl _) (by omega)
  refine⟨key,?_⟩
  rw[e1,e2]
  generalize B*2^k=P at*
  generalize 2^k=Q at*
  have:=acX (y5 hF k) (y5 hF k) key key (by omega)
  exact qH this (by omega) (by omega)
theorem yB{n:Nat}{L:List ExV}{s B:Nat}{low:Int}:(yC n L s B low).length=n*n:=by
 show(List.map _ _).length=n*n
 rw[List.length_map]
 refine y5 ?_ s
 show(List.map _ _).length=n*n
 rw[List.length_map];exact(zL _).1
theorem pw8{s B:Nat}(hs:s≤8)(hB:B≤148):2^s≤256∧B*2^s≤37888:=by
 have h1:2^s≤2^8:=Nat.pow_le_pow_right (by decide) hs
 exact⟨h1,Nat.mul_le_mul hB h1⟩
theorem aJ2{n:Nat}{L:List ExV}{s B:Nat}{low:Int}(hn:n≤4)(hs:s≤8)(hB:1≤B∧B≤148)(hw: -(B:Int)≤low-4)(hlo:low≤0)(hb:sbd (-3100) 0 (gB n L s)):sbd (-37888) 73473 (yC n L s B low):=by
 obtain⟨q1,q2⟩:=pw8 hs hB.2
 have hl:(gB n L s).length=n*n:=by show(List.map _ _).length=n*n;rw[List.length_map];exact jS
 have hFl:(gFt n (gB n L s) B).length=n*n:=by show(List.map _ _).length=n*n;rw[List.length_map];exact(zL _).1
 have g:=(Xx hn hB.1 hFl (acO hn hB hl hb) s).1
 have hp:B≤B*2^s:=Nat.le_mul_of_pos_right B (Nat.pow_pos (by decide))
 refine X7 (qH g (show(-37888:Int)≤_ by omega) (show _≤(73472:Int) by omega)) fun x hx=>?_
 exact SpV.bd.mono (SpV.out_bd hx (by omega) (by omega)) (by omega) (by omega)
set_option maxRecDepth 100000 in
theorem aw1(n:Nat)(L:List ExV)(s B:Nat)(low:Int)(hn:n≤4)(hL:L.length=n*n)(hLb:gbd (-3000) 4600 L)(hs:s≤8)(hw:low-2*(s:Int)-12= -(B:Int))(hlo: -120≤low∧low≤0)(hb:sbd (-3100) 0 (gB n L s))
  (y:ExV) (hy:q6 n L n=y) (h0:y.m=0) (hs0:s=0):Con Tryz.prog 65 false [.ag [.v (.int .i64 (n)),.sl (L).length (ql ExV.cs (L))],.v (.int .i64 low)] [] (isA (.ag [.v (.int .i64 (n)),.sl (yC n L s B low).length (ql SpV.cs (yC n L s B low))])):=by
 refine Con.frzA ?_
 have hB:1≤B∧B≤148:=by omega
 have cn:=VP n L hn hL (ym hLb (by omega) (by omega))
 rw[hy]at cn
 have byd:y.bd (-3000) 4700:=by rw[←hy];exact(jE hL hLb (by omega) n (Nat.le_refl n)).mono (by omega) (by omega)
 have cz:=Z9 y.s y.m y.e
 rw[decide_eq_true h0]at cz
 have hty: -3100≤y.top∧y.top≤4800:=by
  unfold ExV.top
  have:=byd.2
  split<;>omega
 have bsh:(ex1.shift (-(s:Int))).bd (-8) 1:=⟨(fun h=>by cases h),by show(-8:Int)≤0+ -(s:Int);omega,by show(bl 1:Int)+(0+ -(s:Int))≤1;have:bl 1≤1:=q9.2 (by decide);omega⟩
 have cs:=yG ex1 (-(s:Int)) (by decide) (by omega)
 have cg:=YO n L (ex1.shift (-(s:Int))) hn hL (ym hLb (by omega) (by omega)) (bsh.mono (by omega) (by omega))
 have cf:=y7 n (zv n L (ex1.shift (-(s:Int)))) (by show(gl _ _ _).length≤_;rw[jS];have:=jU hn;omega)
 change Con _ _ _ _ _ (isA (.ag [.v (.int .i64 (n)),.sl (gB n L s).length (ql SpV.cs (gB n L s))]))at cf
 have hq:=jU hn
 have hbl:(gB n L s).length=n*n:=by show(List.map _ _).length=n*n;rw[List.length_map];exact jS
 have ci:=aw3 n hn
 have cfi:=y7 n (gId n) (by rw[Yt];omega)
 have hst0:(gId n).map ptS=(gSt n (gB n L s) (-(B:Int)) 0).1:=rfl
 rw[hst0]at cfi
 have hst00:(gSt n (gB n L s) (-(B:Int)) 0).2=(gSt n (gB n L s) (-(B:Int)) 0).1:=rfl
 have ct:=ac9 B (by omega)
 have cs2:=yG ex1 (-(B:Int)) (by decide) (by omega)
 have bsh2:(ex1.shift (-(B:Int))).bd (-148) 1:=⟨(fun h=>by cases h),by show(-148:Int)≤0+ -(B:Int);omega,by show(bl 1:Int)+(0+ -(B:Int))≤1;have:bl 1≤1:=q9.2 (by decide);omega⟩
 have hSb:=acN hn hB.1 hbl hb
 have hSl:=fun i=>zL (n:=n) (b:=gB n L s) (w:= -(B:Int)) i
 have htm:=apw hB.2
 have hFl:(gFt n (gB n L s) B).length=n*n:=by show(List.map _ _).length=n*n;rw[List.length_map];exact(zL _).1
 have cft:=ajl n (gSt n (gB n L s) (-(B:Int)) (tmF B)).1 (ex1.shift (-(B:Int))) (by rw[(hSl _).1];omega) (qH (hSb (tmF B)).1 (by omega) (by omega)) (bsh2.mono (by omega) (by omega))
 change Con _ _ _ _ _ (isA (.ag [.v (.int .i64 (n)),.sl (gFt n (gB n L s) B).length (ql SpV.cs (gFt n (gB n L s) B))]))at cft
 obtain⟨q1,q2⟩:=pw8 hs hB.2
 have hFb:=acO hn hB hbl hb
 have hQb:=Xx hn hB.1 hFl hFb
 have hQl:=fun k=>y5 (w:= -(B:Int)) hFl k
 have cot:=JP n (gSq n (-(B:Int)) (gFt n (gB n L s) B) s) (low-4) (by rw[hQl];omega) (qH (hQb s).1 (by omega) (by omega)) (by omega)
 change Con _ _ _ _ _ (isA (.ag [.v (.int .i64 (n)),.sl (yC n L s B low).length (ql SpV.cs (yC n L s B low))]))at cot
 have hHl:(yC n L s B low).length=n*n:=yB
 have hSs:∀i,(gSt n (gB n L s) (-(B:Int)) (i+1)).1=yD (gSt n (gB n L s) (-(B:Int)) i).1 (gSt n (gB n L s) (-(B:Int)) (i+1)).2:=fun _=>rfl
 have hSs2:∀i,(gSt n (gB n L s) (-(B:Int)) (i+1)).2=(qP n (gSt n (gB n L s) (-(B:Int)) i).2 (gB n L s)).map fun x=>x.divd (i+1) (-(B:Int)):=fun _=>rfl
 have hQ0:gSq n (-(B:Int)) (gFt n (gB n L s) B) 0=gFt n (gB n L s) B:=rfl
 have hQs:∀k,gSq n (-(B:Int)) (gFt n (gB n L s) B) (k+1)=(qP n (gSq n (-(B:Int)) (gFt n (gB n L s) B) k) (gSq n (-(B:Int)) (gFt n (gB n L s) B) k)).map fun x=>x.out (-(B:Int)):=fun _=>rfl
 generalize hHH:yC n L s B low=H at*
 generalize gFt n (gB n L s) B=F0 at*
 generalize gB n L s=b at*
 generalize zv n L (ex1.shift (-(s:Int)))=G at*
 generalize gId n=I at*
 refine Con.of_w (rs:=[.cell 4 106]) Tryz.func65 rfl Tryz.ntmps65 rfl ?_
 simp(disch:=omega)only[go_sem]
 refine qa (cn) ?_
 simp(disch:=omega)only[go_sem]
 refine qn (cz) ?_
 simp(disch:=omega)only[go_sem]
 have hs1:(s:Int)=0:=by omega
 rw[show(low-2*0-12:Int)= -(B:Int) by omega]
 refine qv rfl [⟨0,[],[]⟩,⟨2,[0],[]⟩,⟨3,[0],[]⟩,⟨7,[0],[]⟩,⟨1,[0],[100000000]⟩,⟨4,[0],[100000000]⟩,⟨5,[],[100000000]⟩,⟨6,[],[100000000]⟩,⟨8,[],[]⟩] (by kernel_rfl) ?_
 simp(disch:=omega)only[go_sem]
 refine qa (Zz) ?_
 simp(disch:=omega)only[go_sem]
 refine qa (cs) ?_ (by simp(disch:=omega)only[go_sem,show(0-0:Int)= -(s:Int) by omega])
 simp(disch:=omega)only[go_sem]
 refine qa (cg) ?_
 simp(disch:=omega)only[go_sem]
 refine qa (cf) ?_
 simp(disch:=omega)only[go_sem]
 refine qa (ci) ?_
 simp(disch:=omega)only[go_sem]
 refine qa (cfi) ?_
 simp(disch:=omega)only[go_sem]
 refine qj (fun i:Nat=>[(1,.v (.int .i64 low)),(4,.pt 0 0),(6,.v (.int .i64 s)),(7,.v (.int .i64 (-(B:Int)))),(8,.pt 1 0),(9,.pt 2 0),(10,.pt 3 0),(11,.v (.int .i64 ((i:Int)+1)))])
  (fun i=>[(0,.own 0 [.v (.int .i64 0),.v (.slice none 0 0)]),(1,.own 0 [.v (.int .i64 n),.sl b.length (ql SpV.cs b)]),(2,.own 0 [.v (.int .i64 n),.sl (gSt n b (-(B:Int)) i).1.length (ql SpV.cs (gSt n b (-(B:Int)) i).1)]),(3,.own 0 [.v (.int .i64 n),.sl (gSt n b (-(B:Int)) i).2.length (ql SpV.cs (gSt n b (-(B:Int)) i).2)])])
  (fun i=>i≤tmF B) (fun i=>tmF B-i) 0 (by omega)
  (Le.lst [(0,60000000),(1,100000000),(2,110000000),(3,120000000)] _ _ rfl (by simp(disch:=omega)only[go_sem,show(0:Int)+1=1 from rfl,hs1]) (by simp(disch:=omega)only[go_sem,hst00])) ?_
 intro i hi
 obtain⟨b1,b2,b3⟩:=hSb i
 obtain⟨l1,l2⟩:=hSl i
 have ei:(i:Int)+1=((i+1:Nat):Int):=by omega
 have cT:=QP n (gSt n b (-(B:Int)) i).2 b hn l2 hbl (qH b2 (by omega) (by omega)) (qH hb (by omega) (by omega))
 have hTl:(qP n (gSt n b (-(B:Int)) i).2 b).length=n*n:=zS
 have cD:=ajm n (qP n (gSt n b (-(B:Int)) i).2 b) (i+1) (-(B:Int)) (by omega) (qH b3 (by omega) (by omega)) (by omega) (by omega) (by omega)
 rw[←ei,←hSs2 i]at cD
 simp(disch:=omega)only[go_sem]
 refine qn (ct) ?_
 simp(disch:=omega)only[go_sem]
 refine qi (fun h2=>?_) (fun h2=>?_)
 ·have b4:=(hSb (i+1)).2.1
  have cP:=adr n (gSt n b (-(B:Int)) i).1 (gSt n b (-(B:Int)) (i+1)).2 (by omega) (by rw[l1];exact(hSl (i+1)).2) (qH b1 (by omega) (by omega)) (qH b4 (by omega) (by omega))
  rw[←hSs i]at cP
  generalize qP n (gSt n b (-(B:Int)) i).2 b=T at*
  generalize hS2:(gSt n b (-(B:Int)) (i+1)).2=S2 at*
  generalize hS1:(gSt n b (-(B:Int)) (i+1)).1=S1 at*
  simp(disch:=omega)only[go_sem,h2]
  refine qa (cT) ?_
  simp(disch:=omega)only[go_sem]
  refine qa (cD) ?_
  simp(disch:=omega)only[go_sem]
  refine qa (cP) ?_
  simp(disch:=omega)only[go_sem]
  exact qe (i+1) [] (by show i+1≤tmF B;omega) (by show tmF B-(i+1)<tmF B-i;omega) rfl (by simp(disch:=omega)only[go_sem];try omega) (by simp(disch:=omega)only[go_sem,hS1,hS2])
 ·obtain rfl:i=tmF B:=by omega
  simp(disch:=omega)only[go_sem,h2]
  refine qv rfl [⟨0,[],[]⟩,⟨2,[0],[]⟩,⟨1,[0],[]⟩,⟨3,[0],[]⟩,⟨4,[],[]⟩,⟨5,[],[]⟩] (by kernel_rfl) ?_
  simp(disch:=omega)only[go_sem]
  refine qa (Zz) ?_
  simp(disch:=omega)only[go_sem]
  refine qa (cs2) ?_
  simp(disch:=omega)only[go_sem]
  refine qa (cft) ?_
  simp(disch:=omega)only[go_sem]
  refine qj (fun k:Nat=>[(1,.v (.int .i64 low)),(4,.pt 0 0),(7,.v (.int .i64 (-(B:Int)))),(9,.pt 2 0),(58,.v (.int .i64 s)),(59,.v (.int .i64 k))])
   (fun k=>[(0,.own 0 [.v (.int .i64 0),.v (.slice none 0 0)]),(2,.own 0 [.v (.int .i64 n),.sl (gSq n (-(B:Int)) F0 k).length (ql SpV.cs (gSq n (-(B:Int)) F0 k))])]) (fun k=>k≤s) (fun k=>s-k) 0 (by omega) (Le.lst [] _ _ rfl (by simp(disch:=omega)only[go_sem]) (by simp(disch:=omega)only[go_sem,hQ0])) ?_
  intro k hk
  obtain⟨c1,c2⟩:=hQb k
  have lk:=hQl k
  have q3:=pw8 (s:=k) (B:=B) (by omega) hB.2
  simp(disch:=omega)only[go_sem]
  refine qi (fun h3=>?_) (fun h3=>?_)
  ·have q4:=pw8 (s:=k+1) (B:=B) (by omega) hB.2
   have cS:=QP n (gSq n (-(B:Int)) F0 k) (gSq n (-(B:Int)) F0 k) hn lk lk (qH c1 (by omega) (by omega)) (qH c1 (by omega) (by omega))
   have hTl2:(qP n (gSq n (-(B:Int)) F0 k) (gSq n (-(B:Int)) F0 k)).length=n*n:=zS
   have cO:=JP n (qP n (gSq n (-(B:Int)) F0 k) (gSq n (-(B:Int)) F0 k)) (-(B:Int)) (by omega) (qH c2 (by omega) (by omega)) (by omega)
   rw[←hQs k]at cO
   generalize qP n (gSq n (-(B:Int)) F0 k) (gSq n (-(B:Int)) F0 k)=T2 at*
   generalize hK1:gSq n (-(B:Int)) F0 (k+1)=K1 at*
   generalize gSq n (-(B:Int)) F0 k=K0 at*
   simp(disch:=omega)only[go_sem,h3]
   refine qa (cS) ?_
   simp(disch:=omega)only[go_sem]
   refine qa (cO) ?_
   simp(disch:=omega)only[go_sem]
   exact qe (k+1) [] (by show k+1≤s;omega) (by show s-(k+1)<s-k;omega) rfl (by simp(disch:=omega)only[go_sem];try omega) (by simp(disch:=omega)only[go_sem,hK1])
  ·obtain rfl:k=s:=by omega
   simp(disch:=omega)only[go_sem,h3]
   refine qa (cot) ?_
   simp(disch:=omega)only[go_sem]
   exact qu
set_option maxRecDepth 100000 in
theorem aw2(n:Nat)(L:List ExV)(s B:Nat)(low:Int)(hn:n≤4)(hL:L.length=n*n)(hLb:gbd (-3000) 4600 L)(hs:s≤8)(hw:low-2*(s:Int)-12= -(B:Int))(hlo: -120≤low∧low≤0)(hb:sbd (-3100) 0 (gB n L s))
  (y:ExV) (hy:q6 n L n=y) (h0:y.m≠0) (hs0:(if 0>y.top+1 then 0 else y.top+1)=(s:Int)):Con Tryz.prog 65 false [.ag [.v (.int .i64 (n)),.sl (L).length (ql ExV.cs (L))],.v (.int .i64 low)] [] (isA (.ag [.v (.int .i64 (n)),.sl (yC n L s B low).length (ql SpV.cs (yC n L s B low))])):=by
 refine Con.frzA ?_
 have hB:1≤B∧B≤148:=by omega
 have cn:=VP n L hn hL (ym hLb (by omega) (by omega))
 rw[hy]at cn
 have byd:y.bd (-3000) 4700:=by rw[←hy];exact(jE hL hLb (by omega) n (Nat.le_refl n)).mono (by omega) (by omega)
 have cz:=Z9 y.s y.m y.e
 rw[decide_eq_false h0]at cz
 have ctp:=aLm y (byd.mono (by omega) (by omega))
 have hty: -3100≤y.top∧y.top≤4800:=by
  unfold ExV.top
  have:=byd.2
  split<;>omega
 have bsh:(ex1.shift (-(s:Int))).bd (-8) 1:=⟨(fun h=>by cases h),by show(-8:Int)≤0+ -(s:Int);omega,by show(bl 1:Int)+(0+ -(s:Int))≤1;have:bl 1≤1:=q9.2 (by decide);omega⟩
 have cs:=yG ex1 (-(s:Int)) (by decide) (by omega)
 have cg:=YO n L (ex1.shift (-(s:Int))) hn hL (ym hLb (by omega) (by omega)) (bsh.mono (by omega) (by omega))
 have cf:=y7 n (zv n L (ex1.shift (-(s:Int)))) (by show(gl _ _ _).length≤_;rw[jS];have:=jU hn;omega)
 change Con _ _ _ _ _ (isA (.ag [.v (.int .i64 (n)),.sl (gB n L s).length (ql SpV.cs (gB n L s))]))at cf
 have hq:=jU hn
 have hbl:(gB n L s).length=n*n:=by show(List.map _ _).length=n*n;rw[List.length_map];exact jS
 have ci:=aw3 n hn
 have cfi:=y7 n (gId n) (by rw[Yt];omega)
 have hst0:(gId n).map ptS=(gSt n (gB n L s) (-(B:Int)) 0).1:=rfl
 rw[hst0]at cfi
 have hst00:(gSt n (gB n L s) (-(B:Int)) 0).2=(gSt n (gB n L s) (-(B:Int)) 0).1:=rfl
 have ct:=ac9 B (by omega)
 have cs2:=yG ex1 (-(B:Int)) (by decide) (by omega)
 have bsh2:(ex1.shift (-(B:Int))).bd (-148) 1:=⟨(fun h=>by cases h),by show(-148:Int)≤0+ -(B:Int);omega,by show(bl 1:Int)+(0+ -(B:Int))≤1;have:bl 1≤1:=q9.2 (by decide);omega⟩
 have hSb:=acN hn hB.1 hbl hb
 have hSl:=fun i=>zL (n:=n) (b:=gB n L s) (w:= -(B:Int)) i
 have htm:=apw hB.2
 have hFl:(gFt n (gB n L s) B).length=n*n:=by show(List.map _ _).length=n*n;rw[List.length_map];exact(zL _).1
 have cft:=ajl n (gSt n (gB n L s) (-(B:Int)) (tmF B)).1 (ex1.shift (-(B:Int))) (by rw[(hSl _).1];omega) (qH (hSb (tmF B)).1 (by omega) (by omega)) (bsh2.mono (by omega) (by omega))
 change Con _ _ _ _ _ (isA (.ag [.v (.int .i64 (n)),.sl (gFt n (gB n L s) B).length (ql SpV.cs (gFt n (gB n L s) B))]))at cft
 obtain⟨q1,q2⟩:=pw8 hs hB.2
 have hFb:=acO hn hB hbl hb
 have hQb:=Xx hn hB.1 hFl hFb
 have hQl:=fun k=>y5 (w:= -(B:Int)) hFl k
 have cot:=JP n (gSq n (-(B:Int)) (gFt n (gB n L s) B) s) (low-4) (by rw[hQl];omega) (qH (hQb s).1 (by omega) (by omega)) (by omega)
 change Con _ _ _ _ _ (isA (.ag [.v (.int .i64 (n)),.sl (yC n L s B low).length (ql SpV.cs (yC n L s B low))]))at cot
 have hHl:(yC n L s B low).length=n*n:=yB
 have hSs:∀i,(gSt n (gB n L s) (-(B:Int)) (i+1)).1=yD (gSt n (gB n L s) (-(B:Int)) i).1 (gSt n (gB n L s) (-(B:Int)) (i+1)).2:=fun _=>rfl
 have hSs2:∀i,(gSt n (gB n L s) (-(B:Int)) (i+1)).2=(qP n (gSt n (gB n L s) (-(B:Int)) i).2 (gB n L s)).map fun x=>x.divd (i+1) (-(B:Int)):=fun _=>rfl
 have hQ0:gSq n (-(B:Int)) (gFt n (gB n L s) B) 0=gFt n (gB n L s) B:=rfl
 have hQs:∀k,gSq n (-(B:Int)) (gFt n (gB n L s) B) (k+1)=(qP n (gSq n (-(B:Int)) (gFt n (gB n L s) B) k) (gSq n (-(B:Int)) (gFt n (gB n L s) B) k)).map fun x=>x.out (-(B:Int)):=fun _=>rfl
 generalize hHH:yC n L s B low=H at*
 generalize gFt n (gB n L s) B=F0 at*
 generalize gB n L s=b at*
 generalize zv n L (ex1.shift (-(s:Int)))=G at*
 generalize gId n=I at*
 refine Con.of_w (rs:=[.cell 4 106]) Tryz.func65 rfl Tryz.ntmps65 rfl ?_
 simp(disch:=omega)only[go_sem]
 refine qa (cn) ?_
 simp(disch:=omega)only[go_sem]
 refine qn (cz) ?_
 simp(disch:=omega)only[go_sem]
 refine qn (ctp) ?_
 simp(disch:=omega)only[go_sem]
 rw[hs0,hw]
 refine qv rfl [⟨0,[],[]⟩,⟨2,[0],[]⟩,⟨3,[0],[]⟩,⟨7,[0],[]⟩,⟨1,[0],[100000000]⟩,⟨4,[0],[100000000]⟩,⟨5,[],[100000000]⟩,⟨6,[],[100000000]⟩,⟨8,[],[]⟩] (by kernel_rfl) ?_
 simp(disch:=omega)only[go_sem]
 refine qa (Zz) ?_
 simp(disch:=omega)only[go_sem]
 refine qa (cs) ?_ (by simp(disch:=omega)only[go_sem,show(0-(s:Int):Int)= -(s:Int) by omega])
 simp(disch:=omega)only[go_sem]
 refine qa (cg) ?_
 simp(disch:=omega)only[go_sem]
 refine qa (cf) ?_
 simp(disch:=omega)only[go_sem]
 refine qa (ci) ?_
 simp(disch:=omega)only[go_sem]
 refine qa (cfi) ?_
 simp(disch:=omega)only[go_sem]
 refine qj (fun i:Nat=>[(1,.v (.int .i64 low)),(4,.pt 0 0),(6,.v (.int .i64 s)),(7,.v (.int .i64 (-(B:Int)))),(8,.pt 1 0),(9,.pt 2 0),(10,.pt 3 0),(11,.v (.int .i64 ((i:Int)+1)))])
  (fun i=>[(0,.own 0 [.v (.int .i64 0),.v (.slice none 0 0)]),(1,.own 0 [.v (.int .i64 n),.sl b.length (ql SpV.cs b)]),(2,.own 0 [.v (.int .i64 n),.sl (gSt n b (-(B:Int)) i).1.length (ql SpV.cs (gSt n b (-(B:Int)) i).1)]),(3,.own 0 [.v (.int .i64 n),.sl (gSt n b (-(B:Int)) i).2.length (ql SpV.cs (gSt n b (-(B:Int)) i).2)])])
  (fun i=>i≤tmF B) (fun i=>tmF B-i) 0 (by omega)
  (Le.lst [(0,60000000),(1,100000000),(2,110000000),(3,120000000)] _ _ rfl (by simp(disch:=omega)only[go_sem,show(0:Int)+1=1 from rfl]) (by simp(disch:=omega)only[go_sem,hst00])) ?_
 intro i hi
 obtain⟨b1,b2,b3⟩:=hSb i
 obtain⟨l1,l2⟩:=hSl i
 have ei:(i:Int)+1=((i+1:Nat):Int):=by omega
 have cT:=QP n (gSt n b (-(B:Int)) i).2 b hn l2 hbl (qH b2 (by omega) (by omega)) (qH hb (by omega) (by omega))
 have hTl:(qP n (gSt n b (-(B:Int)) i).2 b).length=n*n:=zS
 have cD:=ajm n (qP n (gSt n b (-(B:Int)) i).2 b) (i+1) (-(B:Int)) (by omega) (qH b3 (by omega) (by omega)) (by omega) (by omega) (by omega)
 rw[←ei,←hSs2 i]at cD
 simp(disch:=omega)only[go_sem]
 refine qn (ct) ?_
 simp(disch:=omega)only[go_sem]
 refine qi (fun h2=>?_) (fun h2=>?_)
 ·have b4:=(hSb (i+1)).2.1
  have cP:=adr n (gSt n b (-(B:Int)) i).1 (gSt n b (-(B:Int)) (i+1)).2 (by omega) (by rw[l1];exact(hSl (i+1)).2) (qH b1 (by omega) (by omega)) (qH b4 (by omega) (by omega))
  rw[←hSs i]at cP
  generalize qP n (gSt n b (-(B:Int)) i).2 b=T at*
  generalize hS2:(gSt n b (-(B:Int)) (i+1)).2=S2 at*
  generalize hS1:(gSt n b (-(B:Int)) (i+1)).1=S1 at*
  simp(disch:=omega)only[go_sem,h2]
  refine qa (cT) ?_
  simp(disch:=omega)only[go_sem]
  refine qa (cD) ?_
  simp(disch:=omega)only[go_sem]
  refine qa (cP) ?_
  simp(disch:=omega)only[go_sem]
  exact qe (i+1) [] (by show i+1≤tmF B;omega) (by show tmF B-(i+1)<tmF B-i;omega) rfl (by simp(disch:=omega)only[go_sem];try omega) (by simp(disch:=omega)only[go_sem,hS1,hS2])
 ·obtain rfl:i=tmF B:=by omega
  simp(disch:=omega)only[go_sem,h2]
  refine qv rfl [⟨0,[],[]⟩,⟨2,[0],[]⟩,⟨1,[0],[]⟩,⟨3,[0],[]⟩,⟨4,[],[]⟩,⟨5,[],[]⟩] (by kernel_rfl) ?_
  simp(disch:=omega)only[go_sem]
  refine qa (Zz) ?_
  simp(disch:=omega)only[go_sem]
  refine qa (cs2) ?_
  simp(disch:=omega)only[go_sem]
  refine qa (cft) ?_
  simp(disch:=omega)only[go_sem]
  refine qj (fun k:Nat=>[(1,.v (.int .i64 low)),(4,.pt 0 0),(7,.v (.int .i64 (-(B:Int)))),(9,.pt 2 0),(58,.v (.int .i64 s)),(59,.v (.int .i64 k))])
   (fun k=>[(0,.own 0 [.v (.int .i64 0),.v (.slice none 0 0)]),(2,.own 0 [.v (.int .i64 n),.sl (gSq n (-(B:Int)) F0 k).length (ql SpV.cs (gSq n (-(B:Int)) F0 k))])]) (fun k=>k≤s) (fun k=>s-k) 0 (by omega) (Le.lst [] _ _ rfl (by simp(disch:=omega)only[go_sem]) (by simp(disch:=omega)only[go_sem,hQ0])) ?_
  intro k hk
  obtain⟨c1,c2⟩:=hQb k
  have lk:=hQl k
  have q3:=pw8 (s:=k) (B:=B) (by omega) hB.2
  simp(disch:=omega)only[go_sem]
  refine qi (fun h3=>?_) (fun h3=>?_)
  ·have q4:=pw8 (s:=k+1) (B:=B) (by omega) hB.2
   have cS:=QP n (gSq n (-(B:Int)) F0 k) (gSq n (-(B:Int)) F0 k) hn lk lk (qH c1 (by omega) (by omega)) (qH c1 (by omega) (by omega))
   have hTl2:(qP n (gSq n (-(B:Int)) F0 k) (gSq n (-(B:Int)) F0 k)).length=n*n:=zS
   have cO:=JP n (qP n (gSq n (-(B:Int)) F0 k) (gSq n (-(B:Int)) F0 k)) (-(B:Int)) (by omega) (qH c2 (by omega) (by omega)) (by omega)
   rw[←hQs k]at cO
   generalize qP n (gSq n (-(B:Int)) F0 k) (gSq n (-(B:Int)) F0 k)=T2 at*
   generalize hK1:gSq n (-(B:Int)) F0 (k+1)=K1 at*
   generalize gSq n (-(B:Int)) F0 k=K0 at*
   simp(disch:=omega)only[go_sem,h3]
   refine qa (cS) ?_
   simp(disch:=omega)only[go_sem]
   refine qa (cO) ?_
   simp(disch:=omega)only[go_sem]
   exact qe (k+1) [] (by show k+1≤s;omega) (by show s-(k+1)<s-k;omega) rfl (by simp(disch:=omega)only[go_sem];try omega) (by simp(disch:=omega)only[go_sem,hK1])
  ·obtain rfl:k=s:=by omega
   simp(disch:=omega)only[go_sem,h3]
   refine qa (cot) ?_
   simp(disch:=omega)only[go_sem]
   exact qu
end Go.Ab
namespace Go.Ab
/-! ### How far a rounded inverse is off-/
end Go.Ab
namespace Go.Ab
/-! ### Sums of the exponential's row,in whole numbers-/
def ab(x:Int):Int:=(x.natAbs:Int)
theorem Q2(x y:Int):ab (x*y)=ab x*ab y:=by unfold ab;rw[Int.natAbs_mul,Int.natCast_mul]
theorem aWw(x:Int):0≤ab x:=by unfold ab;omega
theorem ajx(x y:Int):ab (x+y)≤ab x+ab y:=by unfold ab;omega
theorem Y2{x:Int}(h:0≤x):ab x=x:=by unfold ab;omega
theorem J3(B:Int):∀k:Nat,qD (fun _=>B) k=k*B
 |0=>by simp[qD]
 |k+1=>by rw[qD,J3 B k,Int.natCast_add,Int.add_mul];omega
theorem ait{f:Nat→Int}(h:∀i,0≤f i){i:Nat}:∀{k:Nat},i<k→f i≤qD f k
 |0,hk=>by omega
 |k+1,hk=>by
  rw[qD]
  have h0:0≤qD f k:=aca fun i _=>h i
  by_cases e:i=k
  ·subst e;omega
  ·have:=ait h (i:=i) (k:=k) (by omega)
   have:=h k
   omega
structure smallI(n:Nat)(N:Nat→Nat→Int)(c:Int):Prop where
 pos:0<c
 le:2*nrm N n≤c
theorem aZe(n:Nat):nrm idI n≤1:=Vn (by omega) fun j hj=>by
 have:qD (fun i=>((idI i j).natAbs:Int)) n=((idI j j).natAbs:Int):=jL hj fun i _ hne=>by unfold idI;rw[if_neg hne];rfl
 rw[this];unfold idI;rw[if_pos rfl];decide
theorem aiP{n:Nat}{N:Nat→Nat→Int}{c:Int}(h:smallI n N c):∀t:Nat,2^t*nrm (Y6 n N t) n≤c^t
 |0=>by
  have:=aZe n
  rw[Int.pow_zero,Int.pow_zero,Int.one_mul];exact this
 |t+1=>by
  have ih:=aiP h t
  have h1:=aTu (n:=n) (A:=Y6 n N t) (B:=N) (C:=Y6 n N (t+1)) (fun _ _ _ _=>rfl)
  have hN:=ZT N n
  have hp:(0:Int)<2^t:=Int.pow_pos (by omega)
  have hc:(0:Int)<c^t:=Int.pow_pos h.pos
  have h2:2^(t+1)*nrm (Y6 n N (t+1)) n≤2^(t+1)*(nrm (Y6 n N t) n*nrm N n):=Int.mul_le_mul_of_nonneg_left h1 (Int.le_of_lt (Int.pow_pos (by omega)))
  have h3:(2^t*nrm (Y6 n N t) n)*(2*nrm N n)≤c^t*(2*nrm N n):=Int.mul_le_mul_of_nonneg_right ih (by omega)
  have h4:c^t*(2*nrm N n)≤c^t*c:=Int.mul_le_mul_of_nonneg_left h.le (Int.le_of_lt hc)
  have e:(2:Int)^(t+1)*(nrm (Y6 n N t) n*nrm N n)=(2^t*nrm (Y6 n N t) n)*(2*nrm N n):=by rw[Int.pow_succ];grind
  rw[Int.pow_succ c]
  omega
theorem aNF{n:Nat}(A:Nat→Nat→Int){i j:Nat}(hi:i<n)(hj:j<n):ab (A i j)≤nrm A n:=
 Int.le_trans (ait (f:=fun i=>((A i j).natAbs:Int)) (fun i=>by omega) hi) (Vh A hj)
theorem aI6{n:Nat}{N:Nat→Nat→Int}{c:Int}(h:smallI n N c)(t:Nat){i j:Nat}(hi:i<n)(hj:j<n):2^t*ab (Y6 n N t i j)≤c^t:=
 Int.le_trans (Int.mul_le_mul_of_nonneg_left (aNF _ hi hj) (Int.le_of_lt (Int.pow_pos (by omega)))) (aiP h t)
def fr:Nat→Nat→Int
 |0,_=>1
 |T+1,t=>if t≤T then fr T t*((T:Int)+1)else 1
theorem ahi:∀T,fr T T=1
 |0=>rfl
 |T+1=>by unfold fr;rw[if_neg (by omega)]
theorem acQ:∀T t,0<fr T t
 |0,t=>by show(0:Int)<1;decide
 |T+1,t=>by
  unfold fr
  split
  ·exact Int.mul_pos (acQ T t) (by omega)
  ·decide
theorem ahh{T t:Nat}(h:t≤T):fr (T+1) t=fr T t*((T:Int)+1):=by
 conv=>lhs;unfold fr
 rw[if_pos h]
theorem avU:∀{T t:Nat},t<T→((t:Int)+1)*fr T (t+1)=fr T t
 |0,t,h=>by omega
 |T+1,t,h=>by
  by_cases e:t=T
  ·subst e
   rw[ahi,ahh (Nat.le_refl t),ahi];omega
  ·rw[ahh (show t+1≤T by omega),ahh (show t≤T by omega),←Int.mul_assoc,avU (by omega)]
theorem bab{T:Nat}:∀{t:Nat},t≤T→fr T t≤fr T 0
 |0,_=>Int.le_refl _
 |t+1,h=>by
  have h1:=avU (show t<T by omega)
  have h2:=bab (show t≤T by omega)
  have h3:=acQ T (t+1)
  have h4:1*fr T (t+1)≤((t:Int)+1)*fr T (t+1):=Int.mul_le_mul_of_nonneg_right (by omega) (by omega)
  omega
theorem ajb{k:Nat}:∀{T:Nat},k≤T→fr k 0≤fr T 0
 |0,h=>by
  obtain rfl:k=0:=by omega
  exact Int.le_refl _
 |T+1,h=>by
  by_cases e:k=T+1
  ·rw[e];exact Int.le_refl _
  ·have h1:=ajb (show k≤T by omega)
   have h2:=acQ T 0
   rw[ahh (show 0≤T by omega)]
   have h4:fr T 0*1≤fr T 0*((T:Int)+1):=Int.mul_le_mul_of_nonneg_left (by omega) (by omega)
   omega
def eE(n:Nat)(N:Nat→Nat→Int)(c:Int)(T i j:Nat):Int:=qD (fun t=>fr T t*c^(T-t)*Y6 n N t i j) (T+1)
def eD(c:Int)(T:Nat):Int:=fr T 0*c^T
theorem Zx{c:Int}(h:0<c)(T:Nat):0<eD c T:=Int.mul_pos (acQ T 0) (Int.pow_pos h)
theorem VL(c:Int)(T:Nat):eD c (T+1)=((T:Int)+1)*c*eD c T:=by
 unfold eD;rw[ahh (show 0≤T by omega),Int.pow_succ];grind
theorem awj(n:Nat)(N:Nat→Nat→Int)(c:Int)(T i j:Nat):eE n N c (T+1) i j=((T:Int)+1)*c*eE n N c T i j+Y6 n N (T+1) i j:=by
 unfold eE
 rw[qD]
 congr 1
 ·rw[←jr]
  exact qO fun t ht=>by
   rw[ahh (show t≤T by omega),show T+1-t=(T-t)+1 by omega,Int.pow_succ];grind
 ·rw[ahi,Nat.sub_self];simp
theorem aVA(n:Nat)(N:Nat→Nat→Int)(c:Int)(i j:Nat):eE n N c 0 i j=idI i j:=by
 unfold eE;simp[qD,fr,Y6]
theorem ai9{X P D Dk c' F p q cc:Int}(hc:0≤c')(hD:0≤Dk)(hq:0≤q)(hF0:0≤F)(h:p*q*F*X≤D*Dk*(p-q))(hP:2*p*P≤cc)(hF:F*cc≤c'*D):(2*p)*q*F*(c'*X+P*Dk)≤(c'*D)*Dk*(2*p-q):=by
 have h1:(2*c')*(p*q*F*X)≤(2*c')*(D*Dk*(p-q)):=Int.mul_le_mul_of_nonneg_left h (by omega)
 have h2:(q*F*Dk)*(2*p*P)≤(q*F*Dk)*cc:=Int.mul_le_mul_of_nonneg_left hP (Int.mul_nonneg (Int.mul_nonneg hq hF0) hD)
 have h3:(q*Dk)*(F*cc)≤(q*Dk)*(c'*D):=Int.mul_le_mul_of_nonneg_left hF (Int.mul_nonneg hq hD)
 have e1:(2*p)*q*F*(c'*X+P*Dk)=(2*c')*(p*q*F*X)+(q*F*Dk)*(2*p*P):=by grind
 have e2:(c'*D)*Dk*(2*p-q)=(2*c')*(D*Dk*(p-q))+(q*Dk)*(c'*D):=by grind
 have e3:(q*F*Dk)*cc=(q*Dk)*(F*cc):=by grind
 omega
theorem gap{n:Nat}{N:Nat→Nat→Int}{c:Int}(h:smallI n N c)(k:Nat){i j:Nat}(hi:i<n)(hj:j<n):∀d:Nat,
  2^(k+d)*2^k*fr (k+1) 0*(eE n N c (k+d) i j*eD c k-eE n N c k i j*eD c (k+d))≤eD c (k+d)*eD c k*(2^(k+d)-2^k)∧
  2^(k+d)*2^k*fr (k+1) 0*(-(eE n N c (k+d) i j*eD c k-eE n N c k i j*eD c (k+d)))≤eD c (k+d)*eD c k*(2^(k+d)-2^k)
 |0=>by
  rw[Nat.add_zero]
  constructor
  ·rw[Int.sub_self,Int.mul_zero,Int.sub_self,Int.mul_zero];exact Int.le_refl _
  ·rw[Int.sub_self,Int.sub_self];simp
 |d+1=>by
  obtain⟨g1,g2⟩:=gap h k hi hj d
  rw[←Nat.add_assoc]
  generalize hT:k+d=T at*
  have hF:fr (k+1) 0*c^(T+1)≤(((T:Int)+1)*c)*eD c T:=by
   rw[←VL]
   exact Int.mul_le_mul_of_nonneg_right (ajb (by omega)) (Int.le_of_lt (Int.pow_pos h.pos))
  have hPe:=aI6 h (T+1) hi hj
  have hp:(0:Int)<2^T:=Int.pow_pos (by omega)
  have e2:(2:Int)^(T+1)=2*2^T:=by rw[Int.pow_succ];omega
  have hc':0≤((T:Int)+1)*c:=Int.mul_nonneg (by omega) (Int.le_of_lt h.pos)
  have hDk:=Int.le_of_lt (Zx h.pos k)
  have hq:(0:Int)≤2^k:=Int.le_of_lt (Int.pow_pos (by omega))
  have hF0:=Int.le_of_lt (acQ (k+1) 0)
  rw[e2]at hPe
  have P1:2*2^T*Y6 n N (T+1) i j≤c^(T+1):=Int.le_trans (Int.mul_le_mul_of_nonneg_left (by unfold ab;omega) (by omega)) hPe
  have P2:2*2^T* -Y6 n N (T+1) i j≤c^(T+1):=Int.le_trans (Int.mul_le_mul_of_nonneg_left (by unfold ab;omega) (by omega)) hPe
  have s1:=ai9 hc' hDk hq hF0 g1 P1 hF
  have s2:=ai9 hc' hDk hq hF0 g2 P2 hF
  rw[awj,VL,e2]
  have a1:(((T:Int)+1)*c*eE n N c T i j+Y6 n N (T+1) i j)*eD c k-eE n N c k i j*(((T:Int)+1)*c*eD c T)=(((T:Int)+1)*c)*(eE n N c T i j*eD c k-eE n N c k i j*eD c T)+Y6 n N (T+1) i j*eD c k:=by grind
  have a2: -((((T:Int)+1)*c*eE n N c T i j+Y6 n N (T+1) i j)*eD c k-eE n N c k i j*(((T:Int)+1)*c*eD c T))=(((T:Int)+1)*c)*(-(eE n N c T i j*eD c k-eE n N c k i j*eD c T))+ -Y6 n N (T+1) i j*eD c k:=by grind
  rw[a2,a1]
  exact⟨s1,s2⟩
theorem aZM{n:Nat}{N:Nat→Nat→Int}{c:Int}(h:smallI n N c){k T W:Nat}(hk:k≤T)(hW:(2:Int)^W≤fr (k+1) 0*2^k){i j:Nat}(hi:i<n)(hj:j<n):
  2^W*ab (eE n N c T i j*eD c k-eE n N c k i j*eD c T)≤eD c T*eD c k:=by
 have g:=gap h k hi hj (T-k)
 rw[show k+(T-k)=T by omega]at g
 generalize eE n N c T i j*eD c k-eE n N c k i j*eD c T=X at*
 have hD:0<eD c T*eD c k:=Int.mul_pos (Zx h.pos T) (Zx h.pos k)
 generalize eD c T*eD c k=D at*
 have hp:(0:Int)<2^T:=Int.pow_pos (by omega)
 have hq:(0:Int)<2^k:=Int.pow_pos (by omega)
 have hX:2^T*2^k*fr (k+1) 0*ab X≤D*(2^T-2^k):=by
  rcases(show ab X=X∨ab X= -X by unfold ab;omega)with e|e
  ·rw[e];exact g.1
  ·rw[e];exact g.2
 have h1:D*(2^T-2^k)≤D*2^T:=Int.mul_le_mul_of_nonneg_left (by omega) (by omega)
 have h2:(fr (k+1) 0*2^k*ab X)*2^T≤D*2^T:=by
  have e:(fr (k+1) 0*2^k*ab X)*2^T=2^T*2^k*fr (k+1) 0*ab X:=by grind
  omega
 have h3:=Int.le_of_mul_le_mul_right h2 hp
 have h4:2^W*ab X≤fr (k+1) 0*2^k*ab X:=Int.mul_le_mul_of_nonneg_right hW (aWw X)
 omega
end Go.Ab
namespace Go.Ab
/-! ### Products of sums of the exponential's row-/
def cv(u v:Nat→Int)(k:Nat):Int:=qD (fun i=>u i*v (k-i)) (k+1)
end Go.Ab
namespace Go.Ab
/-! ### Squares,and what is bq5 a multiple of one-/
def trI(n:Nat)(A:Nat→Nat→Int)(i j:Nat):Int:=if i<n∧j<n then A i j else 0
def sqI(n:Nat):Nat→(Nat→Nat→Int)→Nat→Nat→Int
 |0,M=>M
 |k+1,M=>yL n (sqI n k M) (sqI n k M)
def sqD:Nat→Int→Int
 |0,d=>d
 |k+1,d=>sqD k d*sqD k d
theorem Qj{d:Int}(h:0<d):∀k,0<sqD k d
 |0=>h
 |k+1=>Int.mul_pos (Qj h k) (Qj h k)
def bq5(n:Nat)(M:Nat→Nat→Int)(D p q:Int):Prop:=∀u v,u<n→v<n→ab (M u v-D*idI u v)*q≤D*p
end Go.Ab
namespace Go.Ab
open Go Go.Proofs
/-! ### Rational points of matrices of intervals-/
def inR(K:Nat)(s:SpV)(N D:Int):Prop:=inS K s (N*p2 K) D
theorem aZD{K j:Nat}{s:SpV}{N D:Int}(hs:s.eK K)(h:inR K s N D):inR (K+j) s N D:=by
 have:=aZz (j:=j) hs h
 rw[Int.mul_assoc,←zI]at this
 exact this
theorem SpV.eK.up{K K':Nat}{s:SpV}(hs:s.eK K)(h:K≤K'):s.eK K':=by
 obtain⟨a,b⟩:=hs
 exact⟨by omega,by omega⟩
theorem ai6{K K':Nat}{s:SpV}{N D:Int}(hs:s.eK K)(h:K≤K')(hi:inR K s N D):inR K' s N D:=by
 have:=aZD (j:=K'-K) hs hi
 rwa[show K+(K'-K)=K' by omega]at this
theorem aZA{K:Nat}{s:SpV}{N D q:Int}(hq:0≤q)(h:inS K s N D):inS K s (N*q) (D*q):=by
 obtain⟨a,b⟩:=h
 have a':=Int.mul_le_mul_of_nonneg_right a hq
 have b':=Int.mul_le_mul_of_nonneg_right b hq
 rw[Int.mul_assoc]at a' b'
 exact⟨a',b'⟩
theorem aZE{K:Nat}{s:SpV}{N D q:Int}(hq:0≤q)(h:inR K s N D):inR K s (N*q) (D*q):=by
 have:=aZA hq h
 rw[Int.mul_right_comm]at this
 exact this
def rtM(n:Nat)(S:List SpV)(M:Nat→Nat→Int)(D:Int):Prop:=∃K:Nat,(∀i,i<n*n→(S.getD i sp0).eK K)∧∀i j,i<n→j<n→inR K (S.getD (i*n+j) sp0) (M i j) D
theorem Zg{n:Nat}{S:List SpV}{M M':Nat→Nat→Int}{D:Int}(h:rtM n S M D)(e:∀i j,i<n→j<n→M i j=M' i j):rtM n S M' D:=by
 obtain⟨K,h1,h2⟩:=h
 exact⟨K,h1,fun i j hi hj=>by rw[←e i j hi hj];exact h2 i j hi hj⟩
theorem auC{n:Nat}{S S':List SpV}{M M':Nat→Nat→Int}{D D':Int}(h:rtM n S M D)(h':rtM n S' M' D'):∃K:Nat,((∀i,i<n*n→(S.getD i sp0).eK K)∧∀i j,i<n→j<n→inR K (S.getD (i*n+j) sp0) (M i j) D)∧((∀i,i<n*n→(S'.getD i sp0).eK K)∧∀i j,i<n→j<n→inR K (S'.getD (i*n+j) sp0) (M' i j) D'):=by
 obtain⟨K,h1,h2⟩:=h
 obtain⟨K',h3,h4⟩:=h'
 exact⟨max K K',⟨fun i hi=>(h1 i hi).up (Nat.le_max_left _ _),fun i j hi hj=>ai6 (h1 _ (zi hi hj)) (Nat.le_max_left _ _) (h2 i j hi hj)⟩,⟨fun i hi=>(h3 i hi).up (Nat.le_max_right _ _),fun i j hi hj=>ai6 (h3 _ (zi hi hj)) (Nat.le_max_right _ _) (h4 i j hi hj)⟩⟩
theorem aiE{n K:Nat}{S S':List SpV}{M M':Nat→Nat→Int}{D D':Int}(hD:0<D)(hD':0<D'){i j:Nat}(eS:∀i,i<n*n→(S.getD i sp0).eK K)(eS':∀i,i<n*n→(S'.getD i sp0).eK K)(h:∀i t,i<n→t<n→inR K (S.getD (i*n+t) sp0) (M i t) D)(h':∀t j,t<n→j<n→inR K (S'.getD (t*n+j) sp0) (M' t j) D')(hi:i<n)(hj:j<n):
  ∀k,k≤n→inR (K+K) (js n S S' i j k) (qD (fun t=>M i t*M' t j) k) (D*D')∧(js n S S' i j k).eK (K+K)
 |0,_=>by
  rw[ZP]
  have e:ex0.val (K+K)=0:=Z2 _
  refine⟨⟨?_,?_⟩,⟨?_,?_⟩⟩
  ·show ex0.val (K+K)*(D*D')≤0*_;rw[e,Int.zero_mul,Int.zero_mul];exact Int.le_refl _
  ·show 0*_≤ex0.val (K+K)*(D*D');rw[e,Int.zero_mul,Int.zero_mul];exact Int.le_refl _
  ·show-((K+K:Nat):Int)≤0;omega
  ·show-((K+K:Nat):Int)≤0;omega
 |k+1,hk=>by
  obtain⟨h1,h2⟩:=aiE hD hD' eS eS' h h' hi hj k (by omega)
  have ia:=zi hi (show k<n by omega)
  have ib:=zi (show k<n by omega) hj
  have t:=avI (eS _ ia) (eS' _ ib) hD hD' (h i k hi (by omega)) (h' k j (by omega) hj)
  have e:M i k*p2 K*(M' k j*p2 K)=M i k*M' k j*p2 (K+K):=by rw[zI];grind
  rw[e]at t
  have et:=SpV.times_eK (eS _ ia) (eS' _ ib)
  rw[yw]
  refine⟨?_,SpV.plus_eK h2 et⟩
  have:=ai5 h2 et h1 t
  rw[←Int.add_mul]at this
  exact this
theorem acl{n:Nat}(hn:1≤n){S S':List SpV}{M M':Nat→Nat→Int}{D D':Int}(hD:0<D)(hD':0<D')(h:rtM n S M D)(h':rtM n S' M' D'):rtM n (qP n S S') (yL n M M') (D*D'):=by
 obtain⟨K,⟨a,b⟩,c,d⟩:=auC h h'
 have key:=fun i j (hi:i<n) (hj:j<n)=>aiE hD hD' a c b d hi hj n (Nat.le_refl n)
 refine⟨K+K,fun i hi=>?_,fun i j hi hj=>?_⟩
 ·unfold qP
  rw[Vy hi]
  exact(key _ _ ((Nat.div_lt_iff_lt_mul (by omega)).2 hi) (Nat.mod_lt i (by omega))).2
 ·unfold qP
  rw[Vy (zi hi hj),(acA hj).1,(acA hj).2]
  exact(key i j hi hj).1
theorem Yx{S S':List SpV}{i:Nat}(hi:i<S.length):(yD S S').getD i sp0=(S.getD i sp0).plus (S'.getD i sp0):=by
 unfold yD
 have r:(List.range S.length).getD i 0=i:=by rw[List.getD_eq_getElem?_getD,List.getElem?_range hi];rfl
 rw[zR (by rw[List.length_range];exact hi) 0,r]
theorem aIR{n:Nat}{S S':List SpV}{M M':Nat→Nat→Int}{D:Int}(hl:S.length=n*n)(h:rtM n S M D)(h':rtM n S' M' D):rtM n (yD S S') (fun i j=>M i j+M' i j) D:=by
 obtain⟨K,⟨a,b⟩,c,d⟩:=auC h h'
 refine⟨K,fun i hi=>?_,fun i j hi hj=>?_⟩
 ·rw[Yx (by omega)]
  exact SpV.plus_eK (a i hi) (c i hi)
 ·have hx:=zi hi hj
  rw[Yx (by omega)]
  have:=ai5 (a _ hx) (c _ hx) (b i j hi hj) (d i j hi hj)
  rw[←Int.add_mul]at this
  exact this
theorem aXX{n:Nat}{S:List SpV}{M:Nat→Nat→Int}{D q:Int}(hq:0≤q)(h:rtM n S M D):rtM n S (fun i j=>M i j*q) (D*q):=by
 obtain⟨K,a,b⟩:=h
 exact⟨K,a,fun i j hi hj=>aZE hq (b i j hi hj)⟩
theorem X8{n:Nat}{S:List SpV}{M M':Nat→Nat→Int}{D D':Int}{f:SpV→SpV}(hl:S.length=n*n)(h:rtM n S M D)(K0:Nat)(hf:∀K s N N',K0≤K→s.eK K→inR K s N D→(∃i j,i<n∧j<n∧N=M i j∧N'=M' i j)→inR K (f s) N' D'∧(f s).eK K)(hn:1≤n):rtM n (S.map f) M' D':=by
 obtain⟨K,a,b⟩:=h
 have key:=fun i j (hi:i<n) (hj:j<n)=>hf (max K K0) (S.getD (i*n+j) sp0) (M i j) (M' i j) (Nat.le_max_right _ _) ((a _ (zi hi hj)).up (Nat.le_max_left _ _)) (ai6 (a _ (zi hi hj)) (Nat.le_max_left _ _) (b i j hi hj)) ⟨i,j,hi,hj,rfl,rfl⟩
 refine⟨max K K0,fun i hi=>?_,fun i j hi hj=>?_⟩
 ·rw[zR (by omega) sp0]
  have:=(key (i/n) (i % n) ((Nat.div_lt_iff_lt_mul (by omega)).2 hi) (Nat.mod_lt i (by omega))).2
  rwa[aNx]at this
 ·rw[zR (by rw[hl];exact zi hi hj) sp0]
  exact(key i j hi hj).1
theorem aK5{K k B:Nat}{s:SpV}{N D:Int}(hk:k≠0)(hK:B≤K)(hD:0≤D)(es:s.eK K)(h:inS K s N D):inS K (s.divd k (-(B:Int))) N (D*k)∧(s.divd k (-(B:Int))).eK K:=by
 have hn:(exN k).m≠0:=hk
 have hv:(exN k).val 0=k:=by show sv false k*2^((0:Int)+((0:Nat):Int)).toNat=k;simp[sv]
 have hp:0<p2 K:=ze K
 have bd:∀(x:ExV) (md:Int), -(K:Int)≤(x.over (exN k) (-(B:Int)) md).e:=fun x md=>by show-(K:Int)≤ -(B:Int);omega
 have d:∀x:ExV, -(K:Int)≤x.e→(x.over (exN k) (-(B:Int)) 3).val K*k≤x.val K∧x.val K≤(x.over (exN k) (-(B:Int)) 2).val K*k:=fun x hx=>by
  have:=(aJc (x:=x) (y:=exN k) (low:= -(B:Int)) (Kx:=K) (Ky:=0) (Kz:=K) hn hx (by show-((0:Nat):Int)≤0;omega) (by omega)).1 rfl
  rw[hv,Nat.zero_add]at this
  exact⟨Int.le_of_mul_le_mul_right this.1 hp,Int.le_of_mul_le_mul_right this.2 hp⟩
 have e3:∀md:Int,Go.Ab.eK K (qG (fun x y=>x.over y (-(B:Int)) md) s ⟨exN k,exN k⟩):=fun md x hx=>by
  simp only[qG,List.mem_cons,List.not_mem_nil,or_false]at hx
  rcases hx with rfl|rfl|rfl|rfl<;>exact bd _ _
 obtain⟨l1,l2⟩:=yA (e3 3)
 obtain⟨m1,m2⟩:=Qr (e3 2)
 have a:=l1 (s.lo.over (exN k) (-(B:Int)) 3) (by simp[qG])
 have b:=m1 (s.hi.over (exN k) (-(B:Int)) 2) (by simp[qG])
 have c:=(d s.lo es.1).1
 have f:=(d s.hi es.2).2
 have hk0:(0:Int)≤k:=by omega
 have a':=Int.le_trans (Int.mul_le_mul_of_nonneg_right a hk0) c
 have b':=Int.le_trans f (Int.mul_le_mul_of_nonneg_right b hk0)
 have a2:=Int.mul_le_mul_of_nonneg_right a' hD
 have b2:=Int.mul_le_mul_of_nonneg_right b' hD
 obtain⟨h1,h2⟩:=h
 refine⟨⟨?_,?_⟩,l2,m2⟩
 ·show(zq (qG (fun x y=>x.over y (-(B:Int)) 3) s ⟨exN k,exN k⟩)).val K*(D*k)≤N
  rw[Int.mul_comm D,←Int.mul_assoc];omega
 ·show N≤(zh (qG (fun x y=>x.over y (-(B:Int)) 2) s ⟨exN k,exN k⟩)).val K*(D*k)
  rw[Int.mul_comm D,←Int.mul_assoc];omega
theorem aiM{K:Nat}{x:ExV}{low md:Int}(hx: -(K:Int)≤x.e)(hl: -(K:Int)≤low): -(K:Int)≤(x.rnd low md).e:=by
 show-(K:Int)≤roE x.m x.e low
 unfold roE;split<;>omega
theorem aTf{K:Nat}{s:SpV}{N D low:Int}(hl: -(K:Int)≤low)(hD:0≤D)(es:s.eK K)(h:inS K s N D):inS K (s.out low) N D∧(s.out low).eK K:=by
 have r1:=(aNd es.1 hl).1
 have r2:=(aNd es.2 hl).2
 obtain⟨a,b⟩:=h
 exact⟨⟨Int.le_trans (Int.mul_le_mul_of_nonneg_right r1 hD) a,Int.le_trans b (Int.mul_le_mul_of_nonneg_right r2 hD)⟩,aiM es.1 hl,aiM es.2 hl⟩
theorem acg{K B:Nat}(h:B≤K):(ex1.shift (-(B:Int))).val K=p2 (K-B):=by
 show sv false 1*2^(0+ -(B:Int)+(K:Int)).toNat=_
 rw[show(0+ -(B:Int)+(K:Int)).toNat=K-B by omega];simp[sv,p2]
theorem aVr{K B:Nat}{s:SpV}{N D N' D':Int}(hB:B≤K)(hD:0<D)(hD':0<D')(es:s.eK K)(h:inR K s N D)(hg:2^B*ab (N'*D-N*D')≤D'*D):inR K (s.fat (ex1.shift (-(B:Int)))) N' D'∧(s.fat (ex1.shift (-(B:Int)))).eK K:=by
 have ey: -(K:Int)≤(ex1.shift (-(B:Int))).e:=by show-(K:Int)≤0+ -(B:Int);omega
 have e1:(s.fat (ex1.shift (-(B:Int)))).lo.val K=s.lo.val K-p2 (K-B):=by
  show(s.lo.plus (ex1.shift (-(B:Int))).neg).val K=_
  rw[zB (y:=ExV.neg (ex1.shift (-(B:Int)))) es.1 ey,Vj,acg hB];omega
 have e2:(s.fat (ex1.shift (-(B:Int)))).hi.val K=s.hi.val K+p2 (K-B):=by
  show(s.hi.plus (ex1.shift (-(B:Int)))).val K=_
  rw[zB es.2 ey,acg hB]
 have ep:p2 K=p2 B*p2 (K-B):=Zj (by omega)
 have hp:=ze (K-B)
 have hg2:p2 K*ab (N'*D-N*D')≤D'*D*p2 (K-B):=by
  have:=Int.mul_le_mul_of_nonneg_right hg (Int.le_of_lt hp)
  rw[ep]
  have e:p2 B*p2 (K-B)*ab (N'*D-N*D')=2^B*ab (N'*D-N*D')*p2 (K-B):=by
   show(2:Int)^B*p2 (K-B)*_=_
   grind
  omega
 have hpK:=ze K
 have g1:p2 K*(N'*D-N*D')≤p2 K*ab (N'*D-N*D'):=Int.mul_le_mul_of_nonneg_left (by unfold ab;omega) (Int.le_of_lt hpK)
 have g2:p2 K* -(N'*D-N*D')≤p2 K*ab (N'*D-N*D'):=Int.mul_le_mul_of_nonneg_left (by unfold ab;omega) (Int.le_of_lt hpK)
 obtain⟨a,b⟩:=h
 have a':=Int.mul_le_mul_of_nonneg_right a (Int.le_of_lt hD')
 have b':=Int.mul_le_mul_of_nonneg_right b (Int.le_of_lt hD')
 refine⟨⟨?_,?_⟩,yf (y:=ExV.neg (ex1.shift (-(B:Int)))) es.1 ey,yf es.2 ey⟩
 ·rw[e1]
  refine Int.le_of_mul_le_mul_right (a:=D) ?_ hD
  have q1:(s.lo.val K-p2 (K-B))*D'*D=s.lo.val K*D*D'-D'*D*p2 (K-B):=by grind
  have q2:N'*p2 K*D=N*p2 K*D'+p2 K*(N'*D-N*D'):=by grind
  have q3:p2 K* -(N'*D-N*D')= -(p2 K*(N'*D-N*D')):=by grind
  omega
 ·rw[e2]
  refine Int.le_of_mul_le_mul_right (a:=D) ?_ hD
  have q1:(s.hi.val K+p2 (K-B))*D'*D=s.hi.val K*D*D'+D'*D*p2 (K-B):=by grind
  have q2:N'*p2 K*D=N*p2 K*D'+p2 K*(N'*D-N*D'):=by grind
  omega
theorem aIS{n k B:Nat}{S:List SpV}{M:Nat→Nat→Int}{D:Int}(hn:1≤n)(hk:k≠0)(hD:0≤D)(hl:S.length=n*n)(h:rtM n S M D):rtM n (S.map fun s=>s.divd k (-(B:Int))) M (D*k):=
 X8 hl h B (fun K s N N' hK es hi ⟨i,j,_,_,e1,e2⟩=>by
  subst e1 e2
  exact aK5 hk hK hD es hi) hn
theorem auD{n B:Nat}{S:List SpV}{M:Nat→Nat→Int}{D:Int}(hn:1≤n)(hD:0≤D)(hl:S.length=n*n)(h:rtM n S M D):rtM n (S.map fun s=>s.out (-(B:Int))) M D:=
 X8 hl h B (fun K s N N' hK es hi ⟨i,j,_,_,e1,e2⟩=>by
  subst e1 e2
  exact aTf (by omega) hD es hi) hn
theorem aSi{n B:Nat}{S:List SpV}{M M':Nat→Nat→Int}{D D':Int}(hn:1≤n)(hD:0<D)(hD':0<D')(hl:S.length=n*n)(h:rtM n S M D)(hg:∀i j,i<n→j<n→2^B*ab (M' i j*D-M i j*D')≤D'*D):rtM n (S.map fun s=>s.fat (ex1.shift (-(B:Int)))) M' D':=
 X8 hl h B (fun K s N N' hK es hi ⟨i,j,h1,h2,e1,e2⟩=>by
  subst e1 e2
  exact aVr hK hD hD' es hi (hg i j h1 h2)) hn
theorem aM8{n K:Nat}{L:List ExV}(hl:L.length=n*n)(hK:eK K L):rtM n (L.map ptS) (fun i j=>mv K L n i j) (p2 K):=by
 refine⟨K,fun i hi=>?_,fun i j hi hj=>?_⟩
 ·rw[zR (by omega) ex0]
  have:=Yz hK (i:=i) (by omega)
  exact⟨this,this⟩
 ·rw[zR (by rw[hl];exact zi hi hj) ex0]
  exact aZB
end Go.Ab
namespace Go.Ab
open Go Go.Proofs
/-! ### What is held has all long sums of the exponential's row-/
theorem aNC:∀k:Nat,((fct k:Nat):Int)=fr k 0
 |0=>rfl
 |k+1=>by
  rw[ahh (show 0≤k by omega),←aNC k]
  show(((k+1)*fct k:Nat):Int)=_
  rw[Int.natCast_mul,Int.mul_comm];rfl
theorem biK{B:Nat}(hB:B≤148):2^B≤fct (tmF B+1)*2^tmF B:=by
 have h:fct 41*2^40≥2^148:=by decide+kernel
 have key:∀f k:Nat,k≤40→41≤k+f→2^B≤fct (tmS B k f+1)*2^tmS B k f:=by
  intro f
  induction f with
  |zero=>intro k _ _;omega
  |succ f ih=>
   intro k hk hf
   unfold tmS
   split
   ·rename_i c
    by_cases e:k=40
    ·subst e
     have c:fct 41*2^40<2^B:=c
     have:=Nat.pow_le_pow_right (n:=2) (by decide) hB
     omega
    ·exact ih (k+1) (by omega) (by omega)
   ·rename_i c
    exact Nat.le_of_not_lt c
 exact key 402 1 (by omega) (by omega)
theorem aM9{n:Nat}:rtM n ((gId n).map ptS) idI 1:=by
 have h:=aM8 (n:=n) (K:=0) (L:=gId n) Yt (fun x hx=>by have:=(aZO x hx).2.1;omega)
 refine Zg h fun i j hi hj=>?_
 unfold mv gId
 rw[aUk hi hj]
 unfold idF idI
 split
 ·decide+kernel
 ·exact Z2 0
theorem avP{n B:Nat}{b:List SpV}{N:Nat→Nat→Int}{c:Int}(hn:1≤n)(hc:0<c)(hl:b.length=n*n)(hb:rtM n b N c):∀i:Nat,rtM n (gSt n b (-(B:Int)) i).1 (eE n N c i) (eD c i)∧rtM n (gSt n b (-(B:Int)) i).2 (Y6 n N i) (eD c i)
 |0=>by
  have e:eD c 0=1:=by simp[eD,fr]
  rw[e]
  exact⟨Zg aM9 fun i j _ _=>(aVA n N c i j).symm,aM9⟩
 |i+1=>by
  obtain⟨h1,h2⟩:=avP hn hc hl hb i
  have hD:=Zx hc i
  have t:=acl hn hD hc h2 hb
  have d:=aIS (B:=B) (k:=i+1) hn (by omega) (Int.le_of_lt (Int.mul_pos hD hc)) zS t
  have eD1:eD c i*c*((i+1:Nat):Int)=eD c (i+1):=by rw[VL];rw[Int.natCast_add];grind
  rw[eD1]at d
  refine⟨?_,d⟩
  have s:=aXX (q:=((i:Int)+1)*c) (Int.mul_nonneg (by omega) (Int.le_of_lt hc)) h1
  have e2:eD c i*(((i:Int)+1)*c)=eD c (i+1):=by rw[VL];grind
  rw[e2]at s
  refine Zg (aIR (zL i).1 s d) fun u v hu hv=>?_
  rw[awj]
  show eE n N c i u v*(((i:Int)+1)*c)+yL n (Y6 n N i) N u v=_
  rw[Int.mul_comm];rfl
theorem aUo{n B:Nat}{b:List SpV}{N:Nat→Nat→Int}{c:Int}(hn:1≤n)(hB:B≤148)(h:smallI n N c)(hl:b.length=n*n)(hb:rtM n b N c){T:Nat}(hT:tmF B≤T):rtM n (gFt n b B) (eE n N c T) (eD c T):=by
 have hW:(2:Int)^B≤fr (tmF B+1) 0*2^tmF B:=by
  rw[←aNC]
  have:=biK hB
  exact_mod_cast this
 exact aSi hn (Zx h.pos _) (Zx h.pos T) (zL _).1 (avP hn h.pos hl hb (tmF B)).1 fun i j hi hj=>aZM h hT hW hi hj
theorem avQ{n B:Nat}{F:List SpV}{M:Nat→Nat→Int}{D:Int}(hn:1≤n)(hD:0<D)(hF:F.length=n*n)(h:rtM n F M D):∀k:Nat,rtM n (gSq n (-(B:Int)) F k) (sqI n k M) (sqD k D)
 |0=>h
 |k+1=>by
  have ih:=avQ (B:=B) hn hD hF h k
  exact auD hn (Int.le_of_lt (Int.mul_pos (Qj hD k) (Qj hD k))) zS (acl hn (Qj hD k) (Qj hD k) ih ih)
theorem aZQ{n s:Nat}{L:List ExV}:(gB n L s).length=n*n:=by
 show(List.map _ _).length=n*n
 rw[List.length_map];exact jS
theorem Vz{n B:Nat}{b:List SpV}:(gFt n b B).length=n*n:=by
 show(List.map _ _).length=n*n
 rw[List.length_map];exact(zL _).1
theorem avM{n s B:Nat}{L:List ExV}{low:Int}{N:Nat→Nat→Int}{c:Int}(hn:1≤n)(hB:B≤148)(hlo:low≤0)(h:smallI n N c)(hb:rtM n (gB n L s) N c){T:Nat}(hT:tmF B≤T):rtM n (yC n L s B low) (sqI n s (eE n N c T)) (sqD s (eD c T)):=by
 have g:=avQ (B:=B) hn (Zx h.pos T) Vz (aUo hn hB h aZQ hb hT) s
 have o:=auD (B:=(4-low).toNat) hn (Int.le_of_lt (Qj (Zx h.pos T) s)) (y5 Vz s) g
 have e: -(((4-low).toNat:Nat):Int)=low-4:=by omega
 rw[e]at o
 exact o
theorem bl9{n s:Nat}{L:List ExV}{K:Nat}(hl:L.length=n*n)(hK:eK K L):rtM n (gB n L s) (fun i j=>mv K L n i j) (p2 (K+s)):=by
 have ey: -((s:Nat):Int)≤(ex1.shift (-(s:Int))).e:=by show-(s:Int)≤0+ -(s:Int);omega
 have hs:∀i j,i<n→j<n→ -((K+s:Nat):Int)≤((L.getD (i*n+j) ex0).times (ex1.shift (-(s:Int)))).e:=fun i j hi hj=>by
  have a:=Yz hK (i:=i*n+j) (by rw[hl];exact zi hi hj)
  show _≤(L.getD (i*n+j) ex0).e+(ex1.shift (-(s:Int))).e
  omega
 have hK2:eK (K+s) (zv n L (ex1.shift (-(s:Int)))):=fun x hx=>by
  obtain⟨t,ht,rfl⟩:=List.mem_map.1 hx
  have ht:=List.mem_range.1 ht
  have hn:0<n:=by
   rcases Nat.eq_zero_or_pos n with e|e
   ·subst e;simp at ht
   ·exact e
  exact hs _ _ (Nat.div_lt_of_lt_mul ht) (Nat.mod_lt t hn)
 refine Zg (aM8 jS hK2) fun i j hi hj=>?_
 have a:=Yz hK (i:=i*n+j) (by rw[hl];exact zi hi hj)
 show(List.getD (gl n _ (n*n)) (i*n+j) ex0).val (K+s)=_
 rw[aUk hi hj,yu a ey,acg (Nat.le_refl s),Nat.sub_self]
 show _*p2 0=_
 rw[show p2 0=1 by decide,Int.mul_one];rfl
theorem aW7{K:Nat}{y:ExV}(h0:y.m≠0)(hs:y.s=false)(hK: -(K:Int)≤y.e)(s:Nat)(ht:y.top+1≤(s:Int)):2*y.val K<p2 (K+s):=by
 have h1:y.top=(bl y.m:Int)+y.e:=by unfold ExV.top;rw[if_neg h0]
 have h2:y.m<2^bl y.m:=q9.1 (Nat.le_refl _)
 have h3:y.val K=(y.m:Int)*p2 (y.e+(K:Int)).toNat:=by
  show sv y.s y.m*2^(y.e+(K:Int)).toNat=_
  rw[hs];simp[sv,p2]
 have hp:=ze (y.e+(K:Int)).toNat
 have h4:(y.m:Int)*p2 (y.e+(K:Int)).toNat<p2 (bl y.m)*p2 (y.e+(K:Int)).toNat:=Int.mul_lt_mul_of_pos_right (by unfold p2;exact_mod_cast h2) hp
 rw[←zI]at h4
 have h5:p2 (K+s)=p2 (bl y.m+(y.e+(K:Int)).toNat+1)*p2 (K+s-(bl y.m+(y.e+(K:Int)).toNat+1)):=Zj (by omega)
 have h6:=ze (K+s-(bl y.m+(y.e+(K:Int)).toNat+1))
 have h7:p2 (bl y.m+(y.e+(K:Int)).toNat+1)=2*p2 (bl y.m+(y.e+(K:Int)).toNat):=by rw[zI];show _*2=_;omega
 have h8:=ze (bl y.m+(y.e+(K:Int)).toNat)
 have h9:p2 (bl y.m+(y.e+(K:Int)).toNat+1)*1≤p2 (bl y.m+(y.e+(K:Int)).toNat+1)*p2 (K+s-(bl y.m+(y.e+(K:Int)).toNat+1)):=Int.mul_le_mul_of_nonneg_left (by omega) (by omega)
 omega
theorem aIO{n:Nat}{L:List ExV}{K s:Nat}(hl:L.length=n*n)(hK:eK K L)(hn0:(q6 n L n).s=false)(hs:(q6 n L n).m≠0→(q6 n L n).top+1≤(s:Int)):smallI n (fun i j=>mv K L n i j) (p2 (K+s)):=by
 obtain⟨h1,h2⟩:=Qp hK hl n (Nat.le_refl n)
 refine⟨ze _,?_⟩
 have e:nrm (fun i j=>mv K L n i j) n=(q6 n L n).val K:=h1.symm
 rw[e]
 have hp:=ze (K+s)
 by_cases h0:(q6 n L n).m=0
 ·have:(q6 n L n).val K=0:=by
   show sv _ (q6 n L n).m*_=0
   rw[h0];simp[sv]
  omega
 ·exact Int.le_of_lt (aW7 h0 hn0 h2 s (hs h0))
end Go.Ab
namespace Go.Ab
open Go Go.Proofs
/-! ### What is held is always told:how great its ends are-/
theorem aNb(s:Bool)(a b:Nat)(md:Int)(hb:0<b):rq s a b md*b≤a+b∧a≤rq s a b md*b+b:=by
 have h1:=Nat.div_add_mod a b
 have h2:=Nat.mod_lt a hb
 have h3:a/b*b=b*(a/b):=Nat.mul_comm _ _
 have h4:(a/b+1)*b=b*(a/b)+b:=by rw[Nat.add_mul,Nat.one_mul,Nat.mul_comm]
 unfold rq
 split
 ·omega
 ·split<;>omega
theorem aMX(s:Bool):ab (sv s 1)=1:=by unfold ab;rw[Je];rfl
theorem aJd{x y:ExV}{low md:Int}{Kx Ky Kz:Nat}(hy0:y.m≠0)(hx: -(Kx:Int)≤x.e)(hy: -(Ky:Int)≤y.e)(hz: -(Kz:Int)≤low):
  ab ((x.over y low md).val Kz*y.val Ky*p2 Kx)≤ab (x.val Kx)*p2 (Ky+Kz)+ab (y.val Ky)*p2 ((low+Kz).toNat+Kx):=by
 obtain⟨a,b,f,hb,hf,e1,e2,e3⟩:=Zk (mode:=md) hy0 hx hy hz
 obtain⟨h1, -⟩:=aNb (x.s != y.s) a b md hb
 have e2':ab (x.val Kx)*p2 (Ky+Kz)=a*f:=by
  rw[←Y2 (Int.le_of_lt (ze (Ky+Kz))),←Q2,e2,Q2,aMX,Int.one_mul]
  exact Y2 (Int.mul_nonneg (by omega) (by omega))
 have e3':ab (y.val Ky)*p2 ((low+Kz).toNat+Kx)=b*f:=e3
 rw[e1,e2',e3',Q2,aMX,Int.one_mul,Y2 (Int.mul_nonneg (by omega) (by omega)),←Int.add_mul]
 exact Int.mul_le_mul_of_nonneg_right (by omega) (by omega)
theorem auG{K:Nat}{x:ExV}{low md:Int}(hx: -(K:Int)≤x.e)(hl: -(K:Int)≤low):ab ((x.rnd low md).val K)≤ab (x.val K)+p2 (low+(K:Int)).toNat:=by
 have hpl:=ze (low+(K:Int)).toNat
 obtain⟨s,m,e⟩:=x
 dsimp only at hx
 by_cases h:low≤e∨m=0
 ·have:ExV.rnd ⟨s,m,e⟩ low md=⟨s,m,e⟩:=by
   unfold ExV.rnd roS roM roE
   dsimp only
   rw[if_pos h,if_pos h,if_pos h]
  rw[this];omega
 ·have hv:(ExV.rnd ⟨s,m,e⟩ low md).val K=sv s (rq s m (2^(low-e).toNat) md*2^(low-e).toNat)*2^(e+(K:Int)).toNat:=by
   unfold ExV.rnd roS roM roE ExV.val
   dsimp only
   rw[if_neg h,if_neg h,if_neg h,XA]
   unfold dv
   rw[J1,Int.natCast_pow,Int.mul_assoc]
   congr 1
   show _=(2:Int)^_*_
   rw[←Int.pow_add]
   congr 1
   omega
  have hx2:(ExV.mk s m e).val K=sv s m*2^(e+(K:Int)).toNat:=rfl
  have ha:∀q:Nat,ab (sv s q)=q:=fun q=>by unfold ab;rw[Je]
  have hpe:(0:Int)<2^(e+(K:Int)).toNat:=Int.pow_pos (by omega)
  obtain⟨r1, -⟩:=aNb s m (2^(low-e).toNat) md (Nat.pow_pos (by decide))
  rw[hv,hx2,Q2,Q2,ha,ha,Y2 (Int.le_of_lt hpe)]
  have e4:p2 (low+(K:Int)).toNat=((2^(low-e).toNat:Nat):Int)*2^(e+(K:Int)).toNat:=by
   rw[Int.natCast_pow]
   show(2:Int)^_=(2:Int)^_*_
   rw[←Int.pow_add]
   congr 1
   omega
  rw[e4,←Int.add_mul]
  exact Int.mul_le_mul_of_nonneg_right (by omega) (Int.le_of_lt hpe)
theorem VD{F:ExV→ExV→ExV}(hF:∀m x,F m x=m∨F m x=x):∀(l:List ExV) (m:ExV),l.foldl F m∈m::l
 | [],m=>List.mem_cons_self ..
 |y::l,m=>by
  have h:=VD hF l (F m y)
  rcases List.mem_cons.1 h with h|h
  ·rw[List.foldl_cons,h]
   rcases hF m y with e|e
   ·rw[e];exact List.mem_cons_self ..
   ·rw[e];exact List.mem_cons_of_mem _ (List.mem_cons_self ..)
  ·exact List.mem_cons_of_mem _ (List.mem_cons_of_mem _ h)
theorem ZW{l:List ExV}(h:l≠[]):zq l∈l:=by
 cases l with
 |nil=>exact absurd rfl h
 |cons y l=>exact VD Zr l y
theorem Yj{l:List ExV}(h:l≠[]):zh l∈l:=by
 cases l with
 |nil=>exact absurd rfl h
 |cons y l=>exact VD Zo l y
def spA(K:Nat)(s:SpV)(q:Int):Prop:=s.eK K∧ab (s.lo.val K)≤q∧ab (s.hi.val K)≤q
theorem auj{K K':Nat}{s t:SpV}{q q':Int}(h:spA K s q)(h':spA K' t q'):spA (K+K') (s.times t) (q*q'):=by
 obtain⟨⟨e1,e2⟩,a1,a2⟩:=h
 obtain⟨⟨f1,f2⟩,b1,b2⟩:=h'
 have hq:0≤q:=Int.le_trans (aWw _) a1
 have key:∀x∈qG ExV.times s t,ab (x.val (K+K'))≤q*q':=fun x hx=>by
  have m:∀x y:ExV, -(K:Int)≤x.e→ -(K':Int)≤y.e→ab (x.val K)≤q→ab (y.val K')≤q'→ab ((x.times y).val (K+K'))≤q*q':=fun x y hx hy h1 h2=>by
   rw[yu hx hy,Q2]
   exact Int.le_trans (Int.mul_le_mul_of_nonneg_right h1 (aWw _)) (Int.mul_le_mul_of_nonneg_left h2 hq)
  simp only[qG,List.mem_cons,List.not_mem_nil,or_false]at hx
  rcases hx with rfl|rfl|rfl|rfl
  ·exact m _ _ e1 f1 a1 b1
  ·exact m _ _ e1 f2 a1 b2
  ·exact m _ _ e2 f1 a2 b1
  ·exact m _ _ e2 f2 a2 b2
 exact⟨SpV.times_eK ⟨e1,e2⟩ ⟨f1,f2⟩,key _ (ZW (by simp[qG])),key _ (Yj (by simp[qG]))⟩
theorem aiz{K:Nat}{s t:SpV}{q q':Int}(h:spA K s q)(h':spA K t q'):spA K (s.plus t) (q+q'):=by
 obtain⟨e,a1,a2⟩:=h
 obtain⟨f,b1,b2⟩:=h'
 refine⟨SpV.plus_eK e f,?_,?_⟩
 ·show ab ((s.lo.plus t.lo).val K)≤_
  rw[zB e.1 f.1]
  have:=ajx (s.lo.val K) (t.lo.val K)
  omega
 ·show ab ((s.hi.plus t.hi).val K)≤_
  rw[zB e.2 f.2]
  have:=ajx (s.hi.val K) (t.hi.val K)
  omega
theorem aiA{K:Nat}{s:SpV}{q q':Int}(h:spA K s q)(hq:q≤q'):spA K s q':=⟨h.1,Int.le_trans h.2.1 hq,Int.le_trans h.2.2 hq⟩
theorem auu{n K K':Nat}{S S':List SpV}{a b:Nat→Nat→Int}{i j:Nat}(h:∀t,t<n→spA K (S.getD (i*n+t) sp0) (a i t))(h':∀t,t<n→spA K' (S'.getD (t*n+j) sp0) (b t j)):∀k,k≤n→spA (K+K') (js n S S' i j k) (qD (fun t=>a i t*b t j) k)
 |0,_=>by
  rw[ZP]
  have e:ex0.val (K+K')=0:=Z2 _
  refine⟨⟨?_,?_⟩,?_,?_⟩
  ·show-((K+K':Nat):Int)≤0;omega
  ·show-((K+K':Nat):Int)≤0;omega
  ·show ab (ex0.val (K+K'))≤0;rw[e];decide
  ·show ab (ex0.val (K+K'))≤0;rw[e];decide
 |k+1,hk=>by
  rw[yw]
  exact aiz (auu h h' k (by omega)) (auj (h k (by omega)) (h' k (by omega)))
def mgA(n K:Nat)(S:List SpV)(q:Int):Prop:=∀i,i<n*n→spA K (S.getD i sp0) q
theorem avf{n K K':Nat}{S:List SpV}{q q':Int}{f:SpV→SpV}(hl:S.length=n*n)(h:mgA n K S q)(hf:∀s,spA K s q→spA K' (f s) q'):mgA n K' (S.map f) q':=fun i hi=>by
 rw[zR (by omega) sp0]
 exact hf _ (h i hi)
theorem ac4{n i:Nat}(hi:i<n*n):i/n<n∧i % n<n:=by
 have hn:0<n:=by
  rcases Nat.eq_zero_or_pos n with e|e
  ·subst e;simp at hi
  ·exact e
 exact⟨(Nat.div_lt_iff_lt_mul hn).2 hi,Nat.mod_lt i hn⟩
theorem aJN{n B Kb k:Nat}{S:List SpV}{X:List ExV}{m:Int}(hk:k≠0)(hX:X.length=n*n)(eX:eK Kb X)(hs:smallI n (fun i j=>mv Kb X n i j) (p2 Kb))(h:mgA n B S m)(hm:0≤m):
  mgA n B ((qP n S (X.map ptS)).map fun s=>s.divd k (-(B:Int))) (m/2+1):=by
 have hT:∀i,i<n*n→∃q:Int,2*q≤m*p2 Kb∧spA (B+Kb) ((qP n S (X.map ptS)).getD i sp0) q:=fun i hi=>by
  obtain⟨h1,h2⟩:=ac4 hi
  refine⟨qD (fun t=>m*ab (mv Kb X n t (i % n))) n,?_,?_⟩
  ·rw[jr]
   have c1:qD (fun t=>ab (mv Kb X n t (i % n))) n≤nrm (fun i j=>mv Kb X n i j) n:=Vh (fun i j=>mv Kb X n i j) h2
   have c2:=hs.le
   have c3:=Int.mul_le_mul_of_nonneg_left (show 2*qD (fun t=>ab (mv Kb X n t (i % n))) n≤p2 Kb by omega) hm
   rw[Int.mul_left_comm]at c3
   exact c3
  ·unfold qP
   rw[Vy hi]
   refine auu (a:=fun _ _=>m) (b:=fun t j=>ab (mv Kb X n t j)) (fun t ht=>h _ (zi h1 ht)) (fun t ht=>?_) n (Nat.le_refl n)
   have hx:=zi ht h2
   rw[zR (by rw[hX];exact hx) ex0]
   have e:=Yz eX (i:=t*n+i % n) (by rw[hX];exact hx)
   exact⟨⟨e,e⟩,Int.le_refl _,Int.le_refl _⟩
 intro i hi
 obtain⟨q,hq,hsp⟩:=hT i hi
 rw[zR (by show i<(gly _ _ _).length;rw[zS];exact hi) sp0]
 generalize (qP n S (X.map ptS)).getD i sp0=s at*
 obtain⟨es,a1,a2⟩:=hsp
 have hn:(exN k).m≠0:=hk
 have hv:(exN k).val 0=k:=by show sv false k*2^((0:Int)+((0:Nat):Int)).toNat=k;simp[sv]
 have key:∀(x:ExV) (md:Int), -((B+Kb:Nat):Int)≤x.e→ab (x.val (B+Kb))≤q→ab ((x.over (exN k) (-(B:Int)) md).val B)≤m/2+1:=fun x md hx hxq=>by
  have:=aJd (md:=md) (x:=x) (y:=exN k) (low:= -(B:Int)) (Kx:=B+Kb) (Ky:=0) (Kz:=B) hn hx (by show-((0:Nat):Int)≤0;omega) (by omega)
  rw[hv,Nat.zero_add,show(-(B:Int)+(B:Int)).toNat+(B+Kb)=B+Kb by omega,Q2,Q2,Y2 (show(0:Int)≤k by omega),Y2 (Int.le_of_lt (ze _)),zI]at this
  generalize ab ((x.over (exN k) (-(B:Int)) md).val B)=r at*
  have hpB:=ze B
  have hpK:=ze Kb
  have s1:ab (x.val (B+Kb))*p2 B≤q*p2 B:=Int.mul_le_mul_of_nonneg_right hxq (Int.le_of_lt hpB)
  have s2:2*(q*p2 B)≤m*p2 Kb*p2 B:=by
   have:=Int.mul_le_mul_of_nonneg_right hq (Int.le_of_lt hpB)
   rw[Int.mul_assoc 2]at this;exact this
  have s3:(2*r*k)*(p2 B*p2 Kb)≤(m+2*k)*(p2 B*p2 Kb):=by
   have e1:(2*r*k)*(p2 B*p2 Kb)=2*(r*k*(p2 B*p2 Kb)):=by grind
   have e2:(m+2*k)*(p2 B*p2 Kb)=m*p2 Kb*p2 B+2*(k*(p2 B*p2 Kb)):=by grind
   omega
  have s4:=Int.le_of_mul_le_mul_right s3 (Int.mul_pos hpB hpK)
  have s5:2*r≤m+2:=by
   rcases Int.lt_or_le (m+2) (2*r)with g|g
   ·have g1:(m+3)*(k:Int)≤2*r*k:=Int.mul_le_mul_of_nonneg_right (by omega) (by omega)
    have g2:m*1≤m*(k:Int):=Int.mul_le_mul_of_nonneg_left (by omega) hm
    rw[Int.add_mul]at g1
    omega
   ·exact g
  omega
 have e3:∀md:Int,∀x∈qG (fun x y=>x.over y (-(B:Int)) md) s ⟨exN k,exN k⟩, -(B:Int)≤x.e∧ab (x.val B)≤m/2+1:=fun md x hx=>by
  simp only[qG,List.mem_cons,List.not_mem_nil,or_false]at hx
  rcases hx with rfl|rfl|rfl|rfl
  ·exact⟨Int.le_refl _,key _ _ es.1 a1⟩
  ·exact⟨Int.le_refl _,key _ _ es.1 a1⟩
  ·exact⟨Int.le_refl _,key _ _ es.2 a2⟩
  ·exact⟨Int.le_refl _,key _ _ es.2 a2⟩
 have l:=e3 3 _ (ZW (by simp[qG]))
 have u:=e3 2 _ (Yj (by simp[qG]))
 exact⟨⟨l.1,u.1⟩,l.2,u.2⟩
def mK(B:Nat):Nat→Int
 |0=>p2 B
 |k+1=>mK B k/2+1
def sK(B:Nat):Nat→Int
 |0=>p2 B
 |k+1=>sK B k+mK B (k+1)
theorem aTW(B:Nat):∀k,0≤mK B k
 |0=>Int.le_of_lt (ze B)
 |k+1=>by have:=aTW B k;show 0≤mK B k/2+1;omega
theorem aXW(B:Nat):∀k:Nat,sK B k+mK B k≤2*p2 B+2*k
 |0=>by show p2 B+p2 B≤2*p2 B+2*((0:Nat):Int);omega
 |k+1=>by
  have:=aXW B k
  show sK B k+(mK B k/2+1)+(mK B k/2+1)≤_
  omega
theorem aNn{n B:Nat}:mgA n B ((gId n).map ptS) (p2 B):=fun i hi=>by
 rw[zR (by rw[Yt];exact hi) ex0]
 have h:∀x∈gId n, -(B:Int)≤x.e∧ab (x.val B)≤p2 B:=fun x hx=>by
  obtain⟨t,ht,rfl⟩:=List.mem_map.1 hx
  show-(B:Int)≤(idF _ _).e∧ab ((idF _ _).val B)≤p2 B
  unfold idF
  split
  ·refine⟨by show-(B:Int)≤0;omega,?_⟩
   show ab (sv false 1*2^((0:Int)+(B:Int)).toNat)≤_
   rw[show((0:Int)+(B:Int)).toNat=B by omega]
   have:sv false 1*2^B=p2 B:=by simp[sv,p2]
   rw[this,Y2 (Int.le_of_lt (ze B))];exact Int.le_refl _
  ·refine⟨by show-(B:Int)≤0;omega,?_⟩
   rw[Z2]
   exact Int.le_of_lt (ze B)
 have:=h _ (aND (i:=i) (by rw[Yt];exact hi))
 exact⟨⟨this.1,this.1⟩,this.2,this.2⟩
theorem aNo{n B Kb:Nat}{X:List ExV}(hX:X.length=n*n)(eX:eK Kb X)(hs:smallI n (fun i j=>mv Kb X n i j) (p2 Kb)):∀k:Nat,mgA n B (gSt n (X.map ptS) (-(B:Int)) k).1 (sK B k)∧mgA n B (gSt n (X.map ptS) (-(B:Int)) k).2 (mK B k)
 |0=>⟨aNn,aNn⟩
 |k+1=>by
  obtain⟨h1,h2⟩:=aNo (B:=B) hX eX hs k
  have h3:=aJN (k:=k+1) (by omega) hX eX hs h2 (aTW B k)
  refine⟨fun i hi=>?_,h3⟩
  show spA B ((yD _ _).getD i sp0) (sK B k+mK B (k+1))
  rw[Yx (by rw[(zL k).1];exact hi)]
  exact aiz (h1 i hi) (h3 i hi)
theorem aZo{n B Kb:Nat}{X:List ExV}(hX:X.length=n*n)(eX:eK Kb X)(hs:smallI n (fun i j=>mv Kb X n i j) (p2 Kb))(hB:12≤B∧B≤148):mgA n B (gFt n (X.map ptS) B) (7*p2 B):=by
 refine avf (zL _).1 (aNo (B:=B) hX eX hs (tmF B)).1 fun s hsp=>?_
 obtain⟨es,a1,a2⟩:=hsp
 have ey: -(B:Int)≤(ex1.shift (-(B:Int))).e:=by show-(B:Int)≤0+ -(B:Int);omega
 have hv:=acg (Nat.le_refl B)
 rw[Nat.sub_self,show p2 0=1 by decide]at hv
 have h1:=aXW B (tmF B)
 have h2:=aTW B (tmF B)
 have h3:=apw hB.2
 have h4:4096≤p2 B:=by
  have e:p2 B=p2 12*p2 (B-12):=Zj (by omega)
  have h5:=ze (B-12)
  have h6:p2 12=4096:=by decide
  rw[e,h6];omega
 refine⟨⟨yf (y:=ExV.neg (ex1.shift (-(B:Int)))) es.1 ey,yf es.2 ey⟩,?_,?_⟩
 ·show ab ((s.lo.plus (ex1.shift (-(B:Int))).neg).val B)≤_
  rw[zB (y:=ExV.neg (ex1.shift (-(B:Int)))) es.1 ey,Vj,hv]
  have:=ajx (s.lo.val B) (-1)
  have e1:ab (-1)=1:=by decide
  omega
 ·show ab ((s.hi.plus (ex1.shift (-(B:Int)))).val B)≤_
  rw[zB es.2 ey,hv]
  have:=ajx (s.hi.val B) 1
  have e1:ab 1=1:=by decide
  omega
def lK:Nat→Nat
 |0=>3
 |k+1=>2*lK k+2
theorem aY2{K:Nat}{s:SpV}{q low:Int}(hl: -(K:Int)≤low)(h:spA K s q):spA K (s.out low) (q+p2 (low+(K:Int)).toNat):=by
 obtain⟨es,a1,a2⟩:=h
 refine⟨⟨aiM es.1 hl,aiM es.2 hl⟩,?_,?_⟩
 ·have:=auG (md:=3) es.1 hl
  show ab ((s.lo.rnd low 3).val K)≤_
  omega
 ·have:=auG (md:=2) es.2 hl
  show ab ((s.hi.rnd low 2).val K)≤_
  omega
theorem ag0{a b:Nat}(h:a≤b):p2 a≤p2 b:=by
 have e:p2 b=p2 a*p2 (b-a):=Zj (by omega)
 have h1:=ze a
 have h2:=ze (b-a)
 have:=Int.mul_le_mul_of_nonneg_left (show(1:Int)≤p2 (b-a) by omega) (Int.le_of_lt h1)
 omega
theorem aNp{n B:Nat}{F:List SpV}(h4:n≤4)(hF:F.length=n*n)(h:mgA n B F (7*p2 B)):∀k:Nat,mgA n (B*2^k) (gSq n (-(B:Int)) F k) ((p2 (lK k)-1)*p2 (B*2^k))
 |0=>by rw[show B*2^0=B by simp,show p2 (lK 0)-1=7 by decide];exact h
 |k+1=>by
  have ih:=aNp h4 hF h k
  have eK:B*2^(k+1)=B*2^k+B*2^k:=by rw[Nat.pow_succ,←Nat.mul_assoc];omega
  have hBk:B≤B*2^k:=Nat.le_mul_of_pos_right B (Nat.pow_pos (by decide))
  rw[eK]
  generalize B*2^k=K at*
  have hT:mgA n (K+K) (qP n (gSq n (-(B:Int)) F k) (gSq n (-(B:Int)) F k)) (4*(((p2 (lK k)-1)*p2 K)*((p2 (lK k)-1)*p2 K))):=fun i hi=>by
   obtain⟨h1,h2⟩:=ac4 hi
   unfold qP
   rw[Vy hi]
   have:=auu (n:=n) (a:=fun _ _=>(p2 (lK k)-1)*p2 K) (b:=fun _ _=>(p2 (lK k)-1)*p2 K) (i:=i/n) (j:=i % n) (fun t ht=>ih _ (zi h1 ht)) (fun t ht=>ih _ (zi ht h2)) n (Nat.le_refl n)
   rw[J3]at this
   refine aiA this (Int.mul_le_mul_of_nonneg_right (by omega) ?_)
   have hp1:=ze (lK k)
   have hp2:=ze K
   exact Int.mul_nonneg (Int.mul_nonneg (by omega) (by omega)) (Int.mul_nonneg (by omega) (by omega))
  refine avf zS hT fun s hsp=>aiA (aY2 (low:= -(B:Int)) (by omega) hsp) ?_
  have g1:p2 (-(B:Int)+((K+K:Nat):Int)).toNat≤p2 (K+K):=ag0 (by omega)
  have g2:p2 (lK (k+1))=4*(p2 (lK k)*p2 (lK k)):=by
   show p2 (2*lK k+2)=_
   rw[show 2*lK k+2=lK k+lK k+2 by omega,zI,zI,show p2 2=4 by decide];omega
  have g3:8≤p2 (lK k):=by
   have:3≤lK k:=by
    cases k with
    |zero=>decide
    |succ k=>show 3≤2*lK k+2;have:1≤lK k:=by {cases k with|zero=>decide|succ k=>show 1≤2*lK k+2;omega};omega
   have:=ag0 this
   have e:p2 3=8:=by decide
   omega
  have e1:4*(((p2 (lK k)-1)*p2 K)*((p2 (lK k)-1)*p2 K))=(4*(p2 (lK k)*p2 (lK k))-8*p2 (lK k)+4)*p2 (K+K):=by rw[zI];grind
  rw[e1,g2]
  generalize p2 (lK k)*p2 (lK k)=A at*
  generalize p2 (lK k)=a at*
  have hP:=ze (K+K)
  generalize p2 (K+K)=P at*
  have e2:(4*A-1)*P=(4*A-8*a+4)*P+P+(8*a-6)*P:=by grind
  have e3:0≤(8*a-6)*P:=Int.mul_nonneg (by omega) (by omega)
  omega
theorem bl1{k:Nat}(h:k≤8):lK k≤1278:=by
 rcases(show k=0∨k=1∨k=2∨k=3∨k=4∨k=5∨k=6∨k=7∨k=8 by omega)with rfl|rfl|rfl|rfl|rfl|rfl|rfl|rfl|rfl<;>decide
theorem aKT(e:Int):VM 0 e=true:=by
 unfold VM QZ oE
 rw[jv,qz];simp
theorem aNA{K:Nat}{x:ExV}(hK: -(K:Int)≤x.e)(hx:ab (x.val K)≤p2 1278*p2 K)(he:x.m=0∨ -150≤x.e):x.fit=true:=by
 by_cases h0:x.m=0
 ·show VM x.m x.e=true
  rw[h0];exact aKT _
 have he:=he.resolve_left h0
 have h1:ab (x.val K)=(x.m:Int)*p2 (x.e+(K:Int)).toNat:=by
  show ab (sv x.s x.m*2^(x.e+(K:Int)).toNat)=_
  rw[Q2,show ab (sv x.s x.m)=x.m by unfold ab;rw[Je],Y2 (Int.le_of_lt (Int.pow_pos (by omega)))];rfl
 have h2:(bl x.m:Int)+x.e≤1279:=by
  rcases Int.lt_or_le 1279 ((bl x.m:Int)+x.e)with g|g
  ·exfalso
   have hb:2^(bl x.m-1)≤x.m:=by
    rcases Nat.lt_or_ge x.m (2^(bl x.m-1))with c|c
    ·have:=q9.2 c
     have:bl x.m≠0:=fun e=>by
      have:=q9.1 (show bl x.m≤0 by omega)
      omega
     omega
    ·exact c
   have hp:=ze (x.e+(K:Int)).toNat
   have a1:p2 (bl x.m-1)*p2 (x.e+(K:Int)).toNat≤(x.m:Int)*p2 (x.e+(K:Int)).toNat:=Int.mul_le_mul_of_nonneg_right (by unfold p2;exact_mod_cast hb) (Int.le_of_lt hp)
   rw[←zI]at a1
   have hb1:bl x.m≠0:=fun e=>by
    have:=q9.1 (show bl x.m≤0 by omega)
    omega
   have a2:p2 (1278+K)*2≤p2 (bl x.m-1+(x.e+(K:Int)).toNat):=by
    have:=ag0 (show 1278+K+1≤bl x.m-1+(x.e+(K:Int)).toNat by omega)
    rw[zI (1278+K) 1]at this
    exact this
   have a3:=ze (1278+K)
   rw[←zI,h1]at hx
   omega
  ·exact g
 show VM x.m x.e=true
 have q4:=jg (aZc x.m)
 have l1:=qE (m:=oM x.m) (B:=1500) (by omega)
 have q5: -3000≤oE x.m x.e∧oE x.m x.e≤3000:=by
  unfold oE
  rw[if_neg h0]
  have:=yM h0
  omega
 unfold VM QZ
 rw[decide_eq_true (show(lim (oM x.m)).length≤100 by omega),decide_eq_true q5.1,decide_eq_true q5.2];rfl
theorem aX3{x:ExV}{low md:Int}(hl: -150≤low):(x.rnd low md).m=0∨ -150≤(x.rnd low md).e:=by
 show roM x.s x.m x.e low md=0∨_≤roE x.m x.e low
 unfold roM roE
 by_cases c:low≤x.e∨x.m=0
 ·rw[if_pos c,if_pos c]
  rcases c with c|c
  ·right;omega
  ·left;exact c
 ·rw[if_neg c,if_neg c];right;omega
theorem avN{n s B Kb:Nat}{X:List ExV}{L:List ExV}{low:Int}(h4:n≤4)(hs8:s≤8)(hB:12≤B∧B≤148)(hw: -(B:Int)≤low-4)(hlo: -120≤low∧low≤0)(hX:X.length=n*n)(eX:eK Kb X)(hs:smallI n (fun i j=>mv Kb X n i j) (p2 Kb))(hg:gB n L s=X.map ptS):(yC n L s B low).all SpV.fit=true:=by
 have h1:=aNp h4 Vz (aZo hX eX hs hB) s
 have hBk:B≤B*2^s:=Nat.le_mul_of_pos_right B (Nat.pow_pos (by decide))
 refine List.all_eq_true.2 fun x hx=>?_
 obtain⟨i,hi,rfl⟩:=List.getElem_of_mem hx
 have hi':i<n*n:=by rw[yB]at hi;exact hi
 have e:(yC n L s B low).getD i sp0=(yC n L s B low)[i]:=by rw[List.getD_eq_getElem?_getD,List.getElem?_eq_getElem hi];rfl
 rw[←e]
 unfold yC
 rw[hg,zR (by rw[y5 Vz];exact hi') sp0]
 have h2:=h1 i hi'
 generalize (gSq n (-(B:Int)) (gFt n (X.map ptS) B) s).getD i sp0=y at*
 have h3:=aY2 (low:=low-4) (by omega) h2
 have hp:=ze (B*2^s)
 have g1:p2 (low-4+((B*2^s:Nat):Int)).toNat≤p2 (B*2^s):=ag0 (by omega)
 have g2:=ag0 (bl1 hs8)
 have g3:p2 (lK s)*p2 (B*2^s)≤p2 1278*p2 (B*2^s):=Int.mul_le_mul_of_nonneg_right g2 (Int.le_of_lt hp)
 rw[Int.sub_mul,Int.one_mul]at h3
 obtain⟨⟨e1,e2⟩,a1,a2⟩:=h3
 have f1:=aNA e1 (by omega) (aX3 (by omega))
 have f2:=aNA e2 (by omega) (aX3 (by omega))
 show((y.out (low-4)).lo.fit&&(y.out (low-4)).hi.fit)=true
 rw[f1,f2];rfl
end Go.Ab
namespace Go.Ab
open Go Go.Proofs
def api(n:Nat)(L:List ExV)(low:Int):Bool:=(decide (-120≤low)&&decide (low≤0))&&decide ((q6 n L n).cmp (exN 64)≤0)
theorem Jm(n:Nat)(L:List ExV)(low:Int)(h:matV n L):Con Tryz.prog 51 true [.ag [.v (.int .i64 (n)),.sl (L).length (ql ExV.cs (L))],.v (.int .i64 low)] [] (isA (.v (.bool (api n L low)))):=by
 have cw:=jz low (-120) 0
 have cm:=aoZ n L h
 have cg:=YE n L (by have:=h.l16;omega)
 have cn:=VP n L h.n4 h.len (ym h.bd (by omega) (by omega))
 have bN:=jE h.len h.bd (by omega) n (Nat.le_refl n)
 have h4:=h.n4
 have cc:=JQ (q6 n L n) (exN 64) (bN.mono (by omega) (by omega)) ((awe (by decide)).mono (by omega) (by omega))
 unfold api
 generalize q6 n L n=y at*
 cases hw:(decide (-120≤low)&&decide (low≤0))
 ·rw[hw]at cw
  refine Con.of_w (rs:=[.tmp 4]) Tryz.func51 rfl Tryz.ntmps51 rfl ?_
  simp(disch:=omega)only[go_sem]
  refine qn (cm) ?_
  simp(disch:=omega)only[go_sem]
  refine qn (cw) ?_
  simp(disch:=omega)only[go_sem]
  exact qy
 ·rw[hw]at cw
  rw[Bool.true_and]
  generalize y.cmp (exN 64)=C at*
  have e64:exN 64=⟨false,64,0⟩:=rfl
  rw[e64]at cc
  refine Con.of_w (rs:=[.tmp 4]) Tryz.func51 rfl Tryz.ntmps51 rfl ?_
  simp(disch:=omega)only[go_sem]
  refine qn (cm) ?_
  simp(disch:=omega)only[go_sem]
  refine qn (cw) ?_
  simp(disch:=omega)only[go_sem]
  refine qa (cg) ?_
  simp(disch:=omega)only[go_sem]
  refine qa (cn) ?_
  simp(disch:=omega)only[go_sem]
  refine qa (zW 64 (by omega)) ?_
  simp(disch:=omega)only[go_sem]
  refine qn (cc) ?_
  simp(disch:=omega)only[go_sem]
  exact qy
end Go.Ab
namespace Go.Ab
open Go Go.Proofs
/-! ### The exponential of a matrix that may be asked for-/
def exS(n:Nat)(L:List ExV):Nat:=hvN (q6 n L n)
def JB(n:Nat)(L:List ExV)(low:Int):Nat:=(12+2*(exS n L:Int)-low).toNat
def exH(n:Nat)(L:List ExV)(low:Int):List SpV:=yC n L (exS n L) (JB n L low) low
theorem auY{n:Nat}{L:List ExV}(h:matV n L):(q6 n L n).s=false:=by
 have b:=(jE h.len h.bd (by omega) n (Nat.le_refl n)).1
 obtain⟨v,e⟩:=Qp (h.eK (Nat.le_refl _)) h.len n (Nat.le_refl n)
 have hv:0≤(q6 n L n).val 3000:=by rw[v];exact jO _ _
 generalize q6 n L n=y at*
 cases hs:y.s
 ·rfl
 ·exfalso
  have hm:y.m≠0:=fun h0=>by rw[b h0]at hs;cases hs
  have:y.val 3000= -((y.m:Int)*p2 (y.e+((3000:Nat):Int)).toNat):=by
   show sv y.s y.m*2^_=_
   rw[hs];simp[sv,p2,Int.neg_mul]
  have hp:=Int.mul_pos (show(0:Int)<y.m by omega) (ze (y.e+((3000:Nat):Int)).toNat)
  omega
theorem adK{K:Nat}{y:ExV}(h0:y.m≠0)(hK: -(K:Int)≤y.e):p2 (y.top-1+(K:Int)).toNat≤ab (y.val K)∧ab (y.val K)<p2 (y.top+(K:Int)).toNat:=by
 have h1:y.top=(bl y.m:Int)+y.e:=by unfold ExV.top;rw[if_neg h0]
 have h2:y.m<2^bl y.m:=q9.1 (Nat.le_refl _)
 have hb1:bl y.m≠0:=fun e=>by
  have:=q9.1 (show bl y.m≤0 by omega)
  omega
 have h3:2^(bl y.m-1)≤y.m:=by
  rcases Nat.lt_or_ge y.m (2^(bl y.m-1))with c|c
  ·have:=q9.2 c
   omega
  ·exact c
 have hv:ab (y.val K)=(y.m:Int)*p2 (y.e+(K:Int)).toNat:=by
  show ab (sv y.s y.m*2^(y.e+(K:Int)).toNat)=_
  rw[Q2,show ab (sv y.s y.m)=y.m by unfold ab;rw[Je],Y2 (Int.le_of_lt (Int.pow_pos (by omega)))];rfl
 have hp:=ze (y.e+(K:Int)).toNat
 rw[hv]
 constructor
 ·rw[show(y.top-1+(K:Int)).toNat=(bl y.m-1)+(y.e+(K:Int)).toNat by omega,zI]
  exact Int.mul_le_mul_of_nonneg_right (by unfold p2;exact_mod_cast h3) (Int.le_of_lt hp)
 ·rw[show(y.top+(K:Int)).toNat=bl y.m+(y.e+(K:Int)).toNat by omega,zI]
  exact Int.mul_lt_mul_of_pos_right (by unfold p2;exact_mod_cast h2) hp
theorem blW{a b:Nat}(h:p2 a<p2 b):a<b:=by
 rcases Nat.lt_or_ge a b with g|g
 ·exact g
 ·have:=ag0 g;omega
theorem ax2{K:Nat}{y:ExV}(h0:y.m=0):y.val K=0:=by
 show sv y.s y.m*_=0
 rw[h0];simp[sv]
theorem aK1{n:Nat}{L:List ExV}(h:matV n L){i j:Nat}(hi:i<n)(hj:j<n):ab (mv 3000 L n i j)≤(q6 n L n).val 3000:=by
 obtain⟨v,e⟩:=Qp (h.eK (Nat.le_refl _)) h.len n (Nat.le_refl n)
 rw[v]
 exact aNF (mv 3000 L n) hi hj
structure askF(n:Nat)(L:List ExV)(low:Int):Prop where
 lo: -120≤low∧low≤0
 s8:exS n L≤8
 B:12≤JB n L low∧JB n L low≤148
 w:low-2*(exS n L:Int)-12= -(JB n L low:Int)
 bd:sbd (-3100) 0 (gB n L (exS n L))
 small:smallI n (fun i j=>mv 3000 L n i j) (p2 (3000+exS n L))
theorem QH{n:Nat}{L:List ExV}{low:Int}(h:matV n L)(ha:api n L low=true):askF n L low:=by
 unfold api at ha
 simp only[Bool.and_eq_true,decide_eq_true_eq]at ha
 obtain⟨hlo,hc⟩:=ha
 have hb:=jE h.len h.bd (by omega) n (Nat.le_refl n)
 obtain⟨v,e⟩:=Qp (h.eK (Nat.le_refl _)) h.len n (Nat.le_refl n)
 have hs:=auY h
 rw[yi (K:=3000) e (by show-((3000:Nat):Int)≤0;omega)]at hc
 have hle:=(YT _ _).1.1 hc
 have e64:(exN 64).val 3000=p2 3006:=by
  have a:(exN 64).val 3000=sv false 64*p2 ((0:Int)+((3000:Nat):Int)).toNat:=rfl
  rw[a,show((0:Int)+((3000:Nat):Int)).toNat=3000 by omega,Zj (show 3006=6+3000 by omega),show sv false 64=p2 6 by decide]
 rw[e64]at hle
 have htop:(q6 n L n).m≠0→(q6 n L n).top≤7:=fun h0=>by
  have t:=(adK h0 e).1
  have hv:ab ((q6 n L n).val 3000)=(q6 n L n).val 3000:=Y2 (by rw[v];exact jO _ _)
  rw[hv]at t
  rcases Int.lt_or_le 7 (q6 n L n).top with g|g
  ·have h1:p2 3006<p2 (3006+1):=by rw[zI];have:=ze 3006;show _<_*2;omega
   have h2:=ag0 (show 3006+1≤((q6 n L n).top-1+((3000:Nat):Int)).toNat by omega)
   omega
  ·exact g
 have s8:exS n L≤8:=by
  unfold exS hvN
  split
  ·omega
  ·rename_i h0
   have:=htop h0
   omega
 have hs1:(q6 n L n).m≠0→(q6 n L n).top+1≤(exS n L:Int):=fun h0=>by
  unfold exS hvN
  rw[if_neg h0];omega
 have hB:(JB n L low:Int)=12+2*(exS n L:Int)-low:=by unfold JB;omega
 refine⟨hlo,s8,by omega,by omega,fun x hx=>?_,aIO h.len (h.eK (Nat.le_refl _)) hs hs1⟩
 obtain⟨y,hy,rfl⟩:=List.mem_map.1 hx
 obtain⟨t,ht,rfl⟩:=List.mem_map.1 hy
 obtain⟨h1,h2⟩:=ac4 (List.mem_range.1 ht)
 have hix:=zi h1 h2
 have hok:=h.ok _ (aND (l:=L) (i:=t/n*n+t % n) (by rw[h.len];exact hix))
 have hen:=aK1 h h1 h2
 have key:((L.getD (t/n*n+t % n) ex0).times (ex1.shift (-(exS n L:Int)))).bd (-3100) 0:=by
  unfold mv at hen
  generalize L.getD (t/n*n+t % n) ex0=x at*
  obtain⟨r1,r2,r3,r4,r5⟩:=yl hok
  have em:(x.times (ex1.shift (-(exS n L:Int)))).m=x.m:=Nat.mul_one _
  have ee:(x.times (ex1.shift (-(exS n L:Int)))).e=x.e-(exS n L:Int):=by show x.e+(0+ -(exS n L:Int))=_;omega
  refine⟨fun h0=>?_,by rw[ee];omega,?_⟩
  ·rw[em]at h0
   show((x.s != false)&&decide (x.m*1≠0))=false
   rw[decide_eq_false (show ¬x.m*1≠0 by omega),Bool.and_false]
  ·rw[em,ee]
   by_cases h0:x.m=0
   ·have:=(r4 h0).2
    rw[h0,QG];omega
   ·have t1:=(adK (K:=3000) h0 (by omega)).1
    have hn0:(q6 n L n).m≠0:=fun hz=>by
     rw[ax2 hz]at hen
     have:=ze (x.top-1+((3000:Nat):Int)).toNat
     omega
    have t2:=(adK hn0 e).2
    have hv:ab ((q6 n L n).val 3000)=(q6 n L n).val 3000:=Y2 (by rw[v];exact jO _ _)
    rw[hv]at t2
    have t3:=blW (show p2 (x.top-1+((3000:Nat):Int)).toNat<p2 ((q6 n L n).top+((3000:Nat):Int)).toNat by omega)
    have t4:x.top=(bl x.m:Int)+x.e:=by unfold ExV.top;rw[if_neg h0]
    have:=hs1 hn0
    omega
 exact⟨key,key⟩
theorem aoR(n:Nat)(L:List ExV)(low:Int)(h:matV n L)(ha:api n L low=true):Con Tryz.prog 65 false [.ag [.v (.int .i64 (n)),.sl (L).length (ql ExV.cs (L))],.v (.int .i64 low)] [] (isA (.ag [.v (.int .i64 (n)),.sl (exH n L low).length (ql SpV.cs (exH n L low))])):=by
 have f:=QH h ha
 by_cases h0:(q6 n L n).m=0
 ·exact aw1 n L (exS n L) (JB n L low) low h.n4 h.len h.bd f.s8 f.w f.lo f.bd _ rfl h0 (by unfold exS hvN;rw[if_pos h0])
 ·refine aw2 n L (exS n L) (JB n L low) low h.n4 h.len h.bd f.s8 f.w f.lo f.bd _ rfl h0 ?_
  unfold exS hvN
  rw[if_neg h0]
  split<;>omega
theorem aZP{n s:Nat}{L:List ExV}:gB n L s=(zv n L (ex1.shift (-(s:Int)))).map ptS:=rfl
theorem blG{n:Nat}{L:List ExV}(h:matV n L)(s:Nat):eK (3000+s) (zv n L (ex1.shift (-(s:Int)))):=fun x hx=>by
 obtain⟨t,ht,rfl⟩:=List.mem_map.1 hx
 obtain⟨h1,h2⟩:=ac4 (List.mem_range.1 ht)
 have a:=Yz (h.eK (Nat.le_refl _)) (i:=t/n*n+t % n) (by rw[h.len];exact zi h1 h2)
 show _≤(L.getD (t/n*n+t % n) ex0).e+(0+ -(s:Int))
 omega
theorem blF{n:Nat}{L:List ExV}(h:matV n L)(s:Nat){i j:Nat}(hi:i<n)(hj:j<n):mv (3000+s) (zv n L (ex1.shift (-(s:Int)))) n i j=mv 3000 L n i j:=by
 have a:=Yz (h.eK (Nat.le_refl _)) (i:=i*n+j) (by rw[h.len];exact zi hi hj)
 have ey: -((s:Nat):Int)≤(ex1.shift (-(s:Int))).e:=by show-(s:Int)≤0+ -(s:Int);omega
 show(List.getD (gl n _ (n*n)) (i*n+j) ex0).val (3000+s)=_
 rw[aUk hi hj,yu a ey,acg (Nat.le_refl s),Nat.sub_self]
 show _*p2 0=_
 rw[show p2 0=1 by decide,Int.mul_one];rfl
theorem ahr{n:Nat}{L:List ExV}{low:Int}(h:matV n L)(f:askF n L low):(exH n L low).all SpV.fit=true:=by
 have hB:=f.B
 have hw:=f.w
 refine avN (Kb:=3000+exS n L) (X:=zv n L (ex1.shift (-(exS n L:Int)))) h.n4 f.s8 hB (by omega) f.lo jS (blG h _) ⟨f.small.pos,?_⟩ aZP
 rw[show nrm (fun i j=>mv (3000+exS n L) (zv n L (ex1.shift (-(exS n L:Int)))) n i j) n=nrm (fun i j=>mv 3000 L n i j) n from auX fun i j hi hj=>blF h _ hi hj]
 exact f.small.le
def exT(n:Nat)(L:List ExV)(low:Int):List SpV:=(exH n L low).map SpV.can
theorem aSj{n:Nat}{S:List SpV}{M:Nat→Nat→Int}{D:Int}(hn:1≤n)(hl:S.length=n*n)(h:rtM n S M D):rtM n (S.map SpV.can) M D:=
 X8 hl h 0 (fun K s N N' hK es hi ⟨i,j,_,_,e1,e2⟩=>by
  subst e1 e2
  exact⟨(aUe es).2 hi,SpV.can_eK es⟩) hn
theorem awd{n:Nat}{L:List ExV}{low:Int}(h:matV n L)(f:askF n L low):imatV n (exT n L low)∧∀T,tmF (JB n L low)≤T→rtM n (exT n L low) (sqI n (exS n L) (eE n (fun i j=>mv 3000 L n i j) (p2 (3000+exS n L)) T)) (sqD (exS n L) (eD (p2 (3000+exS n L)) T)):=by
 have hB:=f.B
 have hl:(exH n L low).length=n*n:=yB
 have key:∀T,tmF (JB n L low)≤T→rtM n (exH n L low) (sqI n (exS n L) (eE n (fun i j=>mv 3000 L n i j) (p2 (3000+exS n L)) T)) (sqD (exS n L) (eD (p2 (3000+exS n L)) T)):=fun T hT=>
  avM h.n1 (by omega) f.lo.2 f.small (bl9 h.len (h.eK (Nat.le_refl _))) hT
 refine⟨?_,fun T hT=>aSj h.n1 hl (key T hT)⟩
 have hD:=Qj (Zx f.small.pos (tmF (JB n L low))) (exS n L)
 obtain⟨K,k1,k2⟩:=key _ (Nat.le_refl _)
 exact(bnP (K:=max K 3000) (Nat.le_max_right _ _) h.n1 h.n4 hl (fun s hs=>by
  obtain⟨i,hi,rfl⟩:=List.getElem_of_mem hs
  have e:(exH n L low).getD i sp0=(exH n L low)[i]:=by rw[List.getD_eq_getElem?_getD,List.getElem?_eq_getElem hi];rfl
  obtain⟨h1,h2⟩:=ac4 (show i<n*n by omega)
  have q1:=k1 i (by omega)
  have q2:=k2 _ _ h1 h2
  rw[aNx]at q2
  rw[←e]
  exact⟨q1.up (Nat.le_max_left _ _),aZC hD (ai6 q1 (Nat.le_max_left _ _) q2)⟩) (ahr h f)).2.2
end Go.Ab
namespace Go.Ab
open Go Go.Proofs
/-! ### Numbers told in rows of their own-/
def ivO(u v:ExV):AV→List Ob→List Ob→Prop:=fun r hs bs=>((lim u.m)=[]∧(lim v.m)=[]∧r=.tu [.ag [.v (.bool u.s),.v (.slice none 0 0),.v (.int .i64 u.e),.v (.bool v.s),.v (.slice none 0 0),.v (.int .i64 v.e)],.v (.bool true)]∧hs=[])∨((lim u.m)=[]∧r=.tu [.ag [.v (.bool u.s),.v (.slice none 0 0),.v (.int .i64 u.e),.v (.bool v.s),.rf 0 0 (lim v.m).length,.v (.int .i64 v.e)],.v (.bool true)]∧hs=[.own 1 (qg (lim v.m))])∨((lim v.m)=[]∧r=.tu [.ag [.v (.bool u.s),.rf 0 0 (lim u.m).length,.v (.int .i64 u.e),.v (.bool v.s),.v (.slice none 0 0),.v (.int .i64 v.e)],.v (.bool true)]∧hs=[.own 1 (qg (lim u.m))])∨(r=.tu [.ag [.v (.bool u.s),.rf 0 0 (lim u.m).length,.v (.int .i64 u.e),.v (.bool v.s),.rf 1 0 (lim v.m).length,.v (.int .i64 v.e)],.v (.bool true)]∧hs=[.own 1 (qg (lim u.m)),.own 1 (qg (lim v.m))])
end Go.Ab
namespace Go.Ab
open Go Go.Proofs
/-! ### The specification's matrices:everything in its one form-/
theorem Jo{K:Nat}{x y:ExV}(hx: -(K:Int)≤x.e)(hy: -(K:Int)≤y.e)(h:x.val K=y.val K):x.can=y.can:=by
 obtain⟨g1,g2,g3⟩:=aVF hx hy h
 show(⟨oS x.s x.m,oM x.m,oE x.m x.e⟩:ExV)=⟨oS y.s y.m,oM y.m,oE y.m y.e⟩
 rw[g1,g2,g3]
theorem jP{K:Nat}{x:ExV}(h: -(K:Int)≤x.e): -(K:Int)≤x.can.e:=aVQ h (by omega)
theorem Vd{K:Nat}{x y:ExV}(hx: -(K:Int)≤x.e)(hy: -(K:Int)≤y.e):(x.can.plus y.can).can=(x.plus y).can:=
 Jo (yf (jP hx) (jP hy)) (yf hx hy) (by rw[zB (jP hx) (jP hy),zB hx hy,z7 hx,z7 hy])
theorem Za{K:Nat}{x y:ExV}(hx: -(K:Int)≤x.e)(hy: -(K:Int)≤y.e):(x.can.times y.can).can=(x.times y).can:=by
 have e1: -((K+K:Nat):Int)≤(x.can.times y.can).e:=by have:=jP hx;have:=jP hy;show _≤x.can.e+y.can.e;omega
 have e2: -((K+K:Nat):Int)≤(x.times y).e:=by show _≤x.e+y.e;omega
 exact Jo e1 e2 (by rw[yu (jP hx) (jP hy),yu hx hy,z7 hx,z7 hy])
theorem V3(x:ExV):x.can.can=x.can:=by
 obtain⟨K,hK⟩:∃K:Nat, -(K:Int)≤x.e:=⟨(-x.e).toNat,by omega⟩
 exact Jo (jP hK) hK (z7 hK)
theorem QE{lo hi:Int}{x:ExV}(h:x.bd lo hi)(h1:lo≤0)(h2:0≤hi):x.can.bd lo hi:=by
 obtain⟨a,b,c⟩:=h
 by_cases h0:x.m=0
 ·have e:x.can=ex0:=by
   show(⟨oS x.s x.m,oM x.m,oE x.m x.e⟩:ExV)=_
   rw[h0,jv];rfl
  rw[e];exact Yy h1 h2
 ·have t:=yM h0
  have e3:x.can.e=x.e+tz x.m:=by show oE x.m x.e=_;unfold oE;rw[if_neg h0]
  have e4:x.can.m*2^tz x.m=x.m:=Jh
  have hz:x.can.m≠0:=fun e=>by rw[e,Nat.zero_mul]at e4;exact h0 e4.symm
  have e5:bl x.m=bl x.can.m+tz x.m:=by
   have:=Jb (n:=x.can.m) hz (tz x.m)
   rw[e4]at this;exact this
  exact⟨fun h=>absurd h hz,by omega,by omega⟩
theorem yI(x y:ExV)(hx:x.bd (-400000) 400000)(hy:y.bd (-400000) 400000):Con Tryz.prog 182 false [.ag [.v (.bool (x).s),.sl (lim (x).m).length (qg (lim (x).m)),.v (.int .i64 (x).e)],.ag [.v (.bool (y).s),.sl (lim (y).m).length (qg (lim (y).m)),.v (.int .i64 (y).e)]] [] (isA (.ag [.v (.bool ((x.times y).can).s),.sl (lim ((x.times y).can).m).length (qg (lim ((x.times y).can).m)),.v (.int .i64 ((x.times y).can).e)])):=by
 obtain⟨z1,a1,a2⟩:=hx
 obtain⟨z2,b1,b2⟩:=hy
 exact awP x.s x.m x.e y.s y.m y.e (by omega) (by omega) (by omega) (by omega)
theorem ah3(k:Int)(M:List DyV)(h1:M.length≤16)(h2:∀d∈M,d.xs.length≤2^39):Con Tryz.prog 44 true [.ag [.v (.int .i64 k),.sl M.length (ql DyV.cs M)]] [] (isA (.v (.bool (adH k M)))):=by
 unfold adH
 refine Con.of_w (rs:=[.tmp 2]) Tryz.func44 rfl Tryz.ntmps44 rfl ?_
 simp(disch:=omega)only[go_sem]
 by_cases c1:k<1
 ·rw[decide_eq_false (show ¬1≤k by omega),Bool.false_and,Bool.false_and]
  simp(disch:=omega)only[go_sem,c1]
  exact qy
 by_cases c2:4<k
 ·rw[decide_eq_false (show ¬k≤4 by omega),Bool.and_false,Bool.false_and]
  simp(disch:=omega)only[go_sem,c1,c2]
  exact qy
 rw[decide_eq_true (show 1≤k by omega),decide_eq_true (show k≤4 by omega),Bool.true_and,Bool.true_and]
 have hq:0≤k*k∧k*k≤16:=⟨Int.mul_nonneg (by omega) (by omega),Int.mul_le_mul (show k≤4 by omega) (show k≤4 by omega) (by omega) (by omega)⟩
 by_cases c3:(M.length:Int)=k*k
 rotate_left
 ·rw[decide_eq_false c3,Bool.false_and]
  simp(disch:=omega)only[go_sem,c1,c2,decide_eq_false c3]
  exact qy
 rw[decide_eq_true c3,Bool.true_and]
 simp(disch:=omega)only[go_sem,c1,c2,decide_eq_true c3]
 refine qj (fun i:Nat=>[(1,.pt 1 0),(2,.v (.bool false)),(3,.v (.int .i64 i))]) (fun _=>[(1,.own 0 [.v (.int .i64 k),.sl M.length (ql DyV.cs M)])]) (fun i=>i≤M.length∧∀j,j<i→(M.getD j dy0).ok=true) (fun i=>M.length-i) 0 ⟨by omega,fun j hj=>by omega⟩
  (Le.lst [(1,30000000)] _ _ rfl (by simp(disch:=omega)only[go_sem]) (by simp(disch:=omega)only[go_sem])) ?_
 rintro i ⟨hi,hp⟩
 simp(disch:=omega)only[go_sem]
 refine qi (fun h3=>?_) (fun h3=>?_)
 ·have hcut:=Qn (l:=M) Xz (i:=i) (by omega) dy0
  have hmem:M.getD i dy0∈M:=by
   rw[List.getD_eq_getElem?_getD,List.getElem?_eq_getElem (by omega)];exact List.getElem_mem _
  have hx:=h2 _ hmem
  have cd:=ZB (M.getD i dy0).s (M.getD i dy0).xs (M.getD i dy0).e (by omega)
  rw[show dyB (M.getD i dy0).s (M.getD i dy0).xs (M.getD i dy0).e=(M.getD i dy0).ok from rfl]at cd
  have hall:(M.getD i dy0).ok=false→M.all DyV.ok=false:=fun h=>List.all_eq_false.2 ⟨_,hmem,by rw[h];simp⟩
  have hnext:(M.getD i dy0).ok=true→∀j,j<i+1→(M.getD j dy0).ok=true:=fun h j hj=>by
   rcases(by omega:j<i∨j=i)with h'|rfl
   ·exact hp j h'
   ·exact h
  generalize M.getD i dy0=d at*
  simp(disch:=omega)only[go_sem,h3,hcut,DyV.cs]
  refine⟨by omega,by omega,qn cd ?_⟩
  simp(disch:=omega)only[go_sem]
  cases hd:d.ok
  ·rw[hall hd]
   simp(disch:=omega)only[go_sem,hd]
   exact qy
  ·simp(disch:=omega)only[go_sem,hd]
   exact qe (i+1) [] ⟨by omega,hnext hd⟩ (by show M.length-(i+1)<M.length-i;omega) rfl (by simp(disch:=omega)only[go_sem];try omega) (by simp(disch:=omega)only[go_sem])
 ·simp(disch:=omega)only[go_sem,h3]
  have hall:M.all DyV.ok=true:=List.all_eq_true.2 fun d hd=>by
   obtain⟨j,hj,rfl⟩:=List.getElem_of_mem hd
   have:=hp j (by omega)
   rw[List.getD_eq_getElem?_getD,List.getElem?_eq_getElem hj]at this
   exact this
  rw[hall]
  exact qy
def gcT(n:Nat)(l l':List ExV)(k:Nat):List ExV:=gl n (fun i j=>(bnR n l l' i j n).can) k
end Go.Ab
namespace Go.Ab
open Go Go.Proofs
end Go.Ab
namespace Go.Ab
open Go Go.Proofs
theorem y6(xs:List Int)(m:Nat)(hl:xs.length≤2^39)(hx:gd xs)(hv:vl xs=(m:Int)):Con Tryz.prog 188 true [.sl xs.length (qg xs)] [] (isA (.ag [.sl (lim (m)).length (qg (lim (m)))])):=(j7 true xs m hl hx hv).natFC
theorem adl(a b:Nat)(la:(lim a).length≤100000)(hb:0<b)(hb2:b<65536):
  Con Tryz.prog 251 false [.ag [.sl (lim (a)).length (qg (lim (a)))],.ag [.sl 1 [.v (.int .i64 (b:Int))]]] [] (isA (.tu [.ag [.sl (lim (a/b)).length (qg (lim (a/b)))],.ag [.sl (lim (a % b)).length (qg (lim (a % b)))]])):=by
 refine Con.frzA ?_
 refine Con.of_w (rs:=[.cell 4 40,.cell 5 40]) Tryz.func251 rfl Tryz.ntmps251 rfl ?_
 simp(disch:=omega)only[go_sem]
 refine qv rfl [⟨0,[],[]⟩,⟨1,[0],[]⟩,⟨2,[0],[]⟩,⟨3,[0],[]⟩,⟨4,[0],[]⟩,⟨9,[0,2,4],[]⟩,⟨5,[],[80000000]⟩,⟨6,[],[80000000]⟩,⟨7,[],[80000000]⟩,⟨8,[],[80000000]⟩,⟨10,[],[]⟩,⟨11,[],[]⟩] (by kernel_rfl) ?_
 simp(disch:=omega)only[go_sem]
 refine qa (adj a b (by omega) hb hb2) ?_
 simp(disch:=omega)only[go_sem]
 refine qv rfl [⟨0,[],[]⟩,⟨1,[0],[]⟩,⟨2,[0],[]⟩,⟨3,[],[]⟩,⟨4,[],[]⟩] (by kernel_rfl) ?_
 simp(disch:=omega)only[go_sem]
 have:=Nat.mod_lt a hb
 refine qa (zF (a % b) (by omega)) ?_
 simp(disch:=omega)only[go_sem]
 exact qu
theorem adm(a b:Nat)(la:(lim a).length≤100000)(lb:(lim b).length≤100000)(hb:b≠0)(hb2:(lim b).length≠1):
  Con Tryz.prog 251 false [.ag [.sl (lim (a)).length (qg (lim (a)))],.ag [.sl (lim (b)).length (qg (lim (b)))]] [] (isA (.tu [.ag [.sl (lim (a/b)).length (qg (lim (a/b)))],.ag [.sl (lim (a % b)).length (qg (lim (a % b)))]])):=by
 refine Con.frzA ?_
 have hA:=zj a
 have hvA:=zd a
 generalize hAA:lim a=A at*
 refine Con.of_w (rs:=[.cell 4 40,.cell 5 40]) Tryz.func251 rfl Tryz.ntmps251 rfl ?_
 simp(disch:=omega)only[go_sem]
 have hb2':¬((lim b).length:Int)=1:=by omega
 simp(disch:=omega)only[go_sem,hb2']
 refine⟨by omega,?_⟩
 have hbp:(0:Int)<(b:Int):=by omega
 refine qj (fun x:Nat×List Int×Nat×Bool=>[(2,.pt 2 0),(3,.pt 3 0),(4,.pt 4 0),(5,.pt 5 0),(8,.rf 1 0 A.length),(9,.pt 0 0),(10,.v (.int .i64 ((x.1:Int)-1)))])
  (fun x=>[(0,.own 0 [bif x.2.2.2 then .v (.slice none 0 0)else .sl (lim (x.2.2.1)).length (qg (lim (x.2.2.1)))]),(1,.own 1 (qg x.2.1)),(2,.own 0 [.sl A.length (qg A)]),(3,.own 0 [.sl (lim (b)).length (qg (lim (b)))]),(4,.own 0 [.v (.slice none 0 0)]),(5,.own 0 [.v (.slice none 0 0)])])
  (fun x=>x.1≤A.length∧x.2.1.length=A.length∧gd x.2.1∧(x.2.2.1:Int)=vl (A.drop x.1) % (b:Int)∧vl (x.2.1.drop x.1)=vl (A.drop x.1)/(b:Int)∧(x.2.2.2=true→x.2.2.1=0))
  (fun x=>x.1) (A.length,List.replicate A.length 0,0,true) ⟨Nat.le_refl _,by simp,zC _,by simp[vl],by simp[vl],fun _=>rfl⟩
  (Le.lst [(0,110000000),(1,350000000),(2,40000000),(3,50000000),(4,60000000),(5,70000000)] _ _ rfl (by simp(disch:=omega)only[go_sem,List.length_replicate];try omega) (by simp(disch:=omega)only[go_sem,cond_true])) ?_
 rintro⟨k,out,rest,fst⟩ ⟨hk,hol,hog,hr,hov,hfst⟩
 dsimp only at hk hol hog hr hov hfst ⊢
 have hr0:rest<b:=by
  have:=Int.emod_lt_of_pos (vl (A.drop k)) hbp
  omega
 have lr:(lim rest).length≤100000:=Nat.le_trans (yX (Nat.le_of_lt hr0)) lb
 have h1':((k:Int)-1<0∧k=0)∨(0≤(k:Int)-1∧∃i,k=i+1):=by
  by_cases h:k=0
  ·left;omega
  ·right;exact⟨by omega,k-1,by omega⟩
 rcases h1' with⟨h1,rfl⟩|⟨h1,i,rfl⟩
 ·have h2:decide ((0:Int)≤0-1)=false:=by decide
  simp(disch:=omega)only[go_sem,h2]
  refine qv rfl [⟨0,[],[]⟩,⟨2,[],[]⟩,⟨1,[2],[]⟩,⟨3,[2],[]⟩,⟨4,[],[]⟩] (by kernel_rfl) ?_
  cases fst
  ·simp(disch:=omega)only[go_sem,cond_false]
   rw[List.drop_zero,List.drop_zero,hvA,←Int.natCast_ediv]at hov
   rw[List.drop_zero,hvA,←Int.natCast_emod]at hr
   have er:rest=a % b:=by omega
   have cn:=y6 out (a/b) (by omega) hog hov
   rw[hol]at cn
   have tO:out.take A.length=out:=List.take_of_length_le (by omega)
   refine qx cn (by simp(disch:=omega)only[go_sem,tO]) ?_
   rintro r hs ⟨rfl,rfl,_⟩
   refine⟨by simp[qL],?_⟩
   simp(disch:=omega)only[go_sem]
   rw[←er]
   exact qu
  ·simp(disch:=omega)only[go_sem,cond_true]
   rw[List.drop_zero,List.drop_zero,hvA,←Int.natCast_ediv]at hov
   rw[List.drop_zero,hvA,←Int.natCast_emod]at hr
   have er:rest=a % b:=by omega
   have cn:=y6 out (a/b) (by omega) hog hov
   rw[hol]at cn
   have tO:out.take A.length=out:=List.take_of_length_le (by omega)
   refine qx cn (by simp(disch:=omega)only[go_sem,tO]) ?_
   rintro r hs ⟨rfl,rfl,_⟩
   refine⟨by simp[qL],?_⟩
   simp(disch:=omega)only[go_sem]
   rw[←er]
   rw[hfst rfl,qz]
   exact qu
 ·have ei:((i+1:Nat):Int)-1=(i:Nat):=by omega
  have hx:=qS hA i
  obtain⟨c,hc⟩:=Int.eq_ofNat_of_zero_le hx.1
  have h2:decide (0≤(i:Int))=true:=decide_eq_true (by omega)
  have hvd:=zQ (l:=A) (i:=i) (by omega)
  obtain⟨R,hR⟩:∃R:Nat,R=c+65536*rest:=⟨_,rfl⟩
  have hRb:R<b*65536:=by
   have:rest+1≤b:=hr0
   have:=Nat.mul_le_mul_left 65536 this
   omega
  have lRR:(lim R).length≤2^40:=by
   have b2:=Q1 (m:=b)
   have b1:=jH b 65536
   have b3:bl 65536≤17:=q9.2 (by omega)
   have:=qE (Nat.le_trans (jg (Nat.le_of_lt hRb)) (Nat.le_trans b1 (Nat.add_le_add b2 b3)))
   omega
  simp(disch:=omega)only[go_sem,ei,h2]
  refine qv rfl [⟨0,[],[]⟩,⟨1,[],[]⟩,⟨2,[1],[]⟩,⟨3,[],[]⟩,⟨4,[],[]⟩,⟨6,[1,4],[]⟩,⟨7,[1,4],[]⟩,⟨5,[7],[]⟩,⟨8,[],[]⟩,⟨9,[],[]⟩,⟨10,[],[]⟩] (by kernel_rfl) ?_
  cases fst
  ·simp(disch:=omega)only[go_sem,cond_false]
   rw[hc]
   refine⟨by omega,by omega,by omega,?_⟩
   have gX:gd ((c:Int)::lim rest):=Q6.2 ⟨by omega,zj rest⟩
   have vX:vl ((c:Int)::lim rest)=(R:Int):=by rw[vl,zd,hR];omega
   have eX:(AV.v (Value.int IntKind.i64 (c:Int))::qg (lim rest))=qg ((c:Int)::lim rest):=rfl
   rw[eX]
   have lX:((c:Int)::lim rest).length=1+(lim rest).length:=by rw[List.length_cons];omega
   have cn:=y6 ((c:Int)::lim rest) R (by omega) gX vX
   rw[lX]at cn
   generalize ((c:Int)::lim rest)=X at*
   have tX:X.take (1+(lim rest).length)=X:=List.take_of_length_le (by omega)
   refine qx cn (by simp(disch:=omega)only[go_sem,tX]) ?_
   rintro r hs ⟨rfl,rfl,_⟩
   refine⟨by simp[qL],?_⟩
   simp(disch:=omega)only[go_sem]
   have e6:((65536:Nat):Int)=65536:=rfl
   refine qj (fun y:Nat×Nat=>[(2,.pt 2 0),(3,.pt 3 0),(4,.pt 4 0),(5,.pt 5 0),(8,.rf 1 0 A.length),(9,.pt 0 0),(10,.v (.int .i64 (i:Int))),(11,.v (.int .i64 y.1)),(12,.v (.int .i64 y.2))])
    (fun y=>[(0,.own 0 [.sl (lim (R)).length (qg (lim (R)))]),(1,.own 1 (qg out)),(2,.own 0 [.sl A.length (qg A)]),(3,.own 0 [.sl (lim (b)).length (qg (lim (b)))]),(4,.own 0 [.v (.slice none 0 0)]),(5,.own 0 [.v (.slice none 0 0)])])
    (fun y=>y.1<y.2∧y.2≤65536∧b*y.1≤R∧R<b*y.2)
    (fun y=>y.2-y.1) (0,65536) ⟨by omega,by omega,by omega,by omega⟩
    (Le.lst [] _ _ rfl (by simp(disch:=omega)only[go_sem,e6];try omega) (by simp(disch:=omega)only[go_sem];try rfl)) ?_
   rintro⟨lo,hi⟩ ⟨g1,g2,g3,g4⟩
   dsimp only at g1 g2 g3 g4 ⊢
   simp(disch:=omega)only[go_sem]
   refine qi (fun h5=>?_) (fun h5=>?_)
   ·simp(disch:=omega)only[go_sem,h5]
    obtain⟨mid,hmid⟩:∃mid:Nat,mid=(lo+hi)/2:=⟨_,rfl⟩
    have em:((lo:Int)+(hi:Int))/2=(mid:Int):=by omega
    have lm:(lim mid).length≤1000000:=by have:=qE (m:=mid) (B:=17) (q9.2 (by omega));omega
    have lbm:(lim (b*mid)).length≤2^40:=by
     have b1:=jH b mid
     have b2:=Q1 (m:=b)
     have b3:bl mid≤17:=q9.2 (by omega)
     have:=qE (Nat.le_trans b1 (Nat.add_le_add b2 b3))
     omega
    refine qv rfl [⟨0,[],[]⟩,⟨1,[0],[]⟩,⟨4,[0],[]⟩,⟨2,[0,4],[]⟩,⟨3,[4],[]⟩,⟨5,[],[]⟩,⟨6,[],[]⟩] (by kernel_rfl) ?_
    simp(disch:=omega)only[go_sem,em]
    refine qa (zF mid (by omega)) ?_
    simp(disch:=omega)only[go_sem]
    refine qa (j8 b mid (by omega) lm) ?_
    simp(disch:=omega)only[go_sem]
    refine qn (QD (b*mid) R lbm lRR) ?_
    simp(disch:=omega)only[go_sem]
    have hcm:=(YT ((b*mid:Nat):Int) (R:Int)).1
    refine qi (fun h6=>?_) (fun h6=>?_)
    ·simp(disch:=omega)only[go_sem,h6]
     have h7:=hcm.1 h6
     exact qe (mid,hi) [] ⟨by show mid<hi;omega,g2,by show b*mid≤R;omega,g4⟩ (by show hi-mid<hi-lo;omega) rfl (by simp(disch:=omega)only[go_sem];try omega) (by simp(disch:=omega)only[go_sem];try rfl)
    ·simp(disch:=omega)only[go_sem,h6]
     have h7:¬((b*mid:Nat):Int)≤(R:Int):=fun h=>h6 (hcm.2 h)
     exact qe (lo,mid) [] ⟨by show lo<mid;omega,by show mid≤65536;omega,g3,by show R<b*mid;omega⟩ (by show mid-lo<hi-lo;omega) rfl (by simp(disch:=omega)only[go_sem];try omega) (by simp(disch:=omega)only[go_sem];try rfl)
   ·simp(disch:=omega)only[go_sem,h5]
    have ehi:hi=lo+1:=by omega
    subst ehi
    have hlo:R/b=lo:=by
     refine Nat.div_eq_of_lt_le ?_ ?_
     ·rw[Nat.mul_comm];exact g3
     ·rw[Nat.mul_comm];exact g4
    have ll:(lim lo).length≤1000000:=by have:=qE (m:=lo) (B:=17) (q9.2 (by omega));omega
    refine⟨by omega,by omega,?_⟩
    refine qv rfl [⟨0,[],[]⟩,⟨1,[0],[]⟩,⟨2,[0,1],[]⟩,⟨3,[0,1],[]⟩,⟨4,[0],[]⟩,⟨5,[],[]⟩,⟨6,[],[]⟩] (by kernel_rfl) ?_
    simp(disch:=omega)only[go_sem]
    refine qa (zF lo (by omega)) ?_
    simp(disch:=omega)only[go_sem]
    refine qa (j8 b lo (by omega) ll) ?_
    simp(disch:=omega)only[go_sem]
    have lR2:(lim R).length≤1000000:=by
     have:=qE (Nat.le_trans (jg (Nat.le_of_lt hRb)) (Nat.le_trans (jH b 65536) (Nat.add_le_add (Q1 (m:=b)) (show bl 65536≤17 from q9.2 (by omega)))))
     omega
    refine qa (QO R (b*lo) g3 lR2) ?_
    simp(disch:=omega)only[go_sem]
    have hsub:R-b*lo=R % b:=by have:=Nat.div_add_mod R b;rw[hlo]at this;omega
    rw[hsub]
    have hV:=Int.emod_add_mul_ediv (vl (A.drop (i+1))) (b:Int)
    have hRI:(R:Int)=(c:Int)+65536*(rest:Int):=by rw[hR];omega
    have hsum:vl (A.drop i)=(R:Int)+(b:Int)*(65536*(vl (A.drop (i+1))/(b:Int))):=by
     rw[hvd,hc,hRI,hr]
     generalize vl (A.drop (i+1))/(b:Int)=q at*
     generalize vl (A.drop (i+1)) % (b:Int)=m at*
     rw[←hV]
     grind
    refine qe (i,out.set i (lo:Int),R % b,false) [] ⟨by show i≤A.length;omega,by simp[hol],Qc hog ⟨by omega,by omega⟩,?_,?_,fun h=>by cases h⟩ (by show i<i+1;omega) rfl (by simp(disch:=omega)only[go_sem];try omega) (by simp(disch:=omega)only[go_sem,cond_false])
    ·show((R % b:Nat):Int)=vl (A.drop i) % (b:Int)
     rw[hsum,Int.add_mul_emod_self_left,Int.natCast_emod]
    ·show vl ((out.set i (lo:Int)).drop i)=vl (A.drop i)/(b:Int)
     rw[hsum,Int.add_mul_ediv_left _ _ (by omega),drop_set (by omega),vl,hov,←Int.natCast_ediv,hlo]
  ·simp(disch:=omega)only[go_sem,cond_true]
   rw[hc]
   refine⟨by omega,by omega,?_⟩
   have hr00:rest=0:=hfst rfl
   have gX:gd [(c:Int)]:=Q6.2 ⟨by omega,by simp[gd]⟩
   have vX:vl [(c:Int)]=(R:Int):=by rw[vl,vl,hR,hr00];omega
   have eX:[AV.v (Value.int IntKind.i64 (c:Int))]=qg [(c:Int)]:=rfl
   rw[eX]
   have cn:=y6 [(c:Int)] R (by simp) gX vX
   rw[List.length_singleton]at cn
   generalize hXX:[(c:Int)]=X at*
   have tX:X.take 1=X:=by rw[←hXX];rfl
   refine qx cn (by simp(disch:=omega)only[go_sem,tX]) ?_
   rintro r hs ⟨rfl,rfl,_⟩
   refine⟨by simp[qL],?_⟩
   simp(disch:=omega)only[go_sem]
   have e6:((65536:Nat):Int)=65536:=rfl
   refine qj (fun y:Nat×Nat=>[(2,.pt 2 0),(3,.pt 3 0),(4,.pt 4 0),(5,.pt 5 0),(8,.rf 1 0 A.length),(9,.pt 0 0),(10,.v (.int .i64 (i:Int))),(11,.v (.int .i64 y.1)),(12,.v (.int .i64 y.2))])
    (fun y=>[(0,.own 0 [.sl (lim (R)).length (qg (lim (R)))]),(1,.own 1 (qg out)),(2,.own 0 [.sl A.length (qg A)]),(3,.own 0 [.sl (lim (b)).length (qg (lim (b)))]),(4,.own 0 [.v (.slice none 0 0)]),(5,.own 0 [.v (.slice none 0 0)])])
    (fun y=>y.1<y.2∧y.2≤65536∧b*y.1≤R∧R<b*y.2)
    (fun y=>y.2-y.1) (0,65536) ⟨by omega,by omega,by omega,by omega⟩
    (Le.lst [] _ _ rfl (by simp(disch:=omega)only[go_sem,e6];try omega) (by simp(disch:=omega)only[go_sem];try rfl)) ?_
   rintro⟨lo,hi⟩ ⟨g1,g2,g3,g4⟩
   dsimp only at g1 g2 g3 g4 ⊢
   simp(disch:=omega)only[go_sem]
   refine qi (fun h5=>?_) (fun h5=>?_)
   ·simp(disch:=omega)only[go_sem,h5]
    obtain⟨mid,hmid⟩:∃mid:Nat,mid=(lo+hi)/2:=⟨_,rfl⟩
    have em:((lo:Int)+(hi:Int))/2=(mid:Int):=by omega
    have lm:(lim mid).length≤1000000:=by have:=qE (m:=mid) (B:=17) (q9.2 (by omega));omega
    have lbm:(lim (b*mid)).length≤2^40:=by
     have b1:=jH b mid
     have b2:=Q1 (m:=b)
     have b3:bl mid≤17:=q9.2 (by omega)
     have:=qE (Nat.le_trans b1 (Nat.add_le_add b2 b3))
     omega
    refine qv rfl [⟨0,[],[]⟩,⟨1,[0],[]⟩,⟨4,[0],[]⟩,⟨2,[0,4],[]⟩,⟨3,[4],[]⟩,⟨5,[],[]⟩,⟨6,[],[]⟩] (by kernel_rfl) ?_
    simp(disch:=omega)only[go_sem,em]
    refine qa (zF mid (by omega)) ?_
    simp(disch:=omega)only[go_sem]
    refine qa (j8 b mid (by omega) lm) ?_
    simp(disch:=omega)only[go_sem]
    refine qn (QD (b*mid) R lbm lRR) ?_
    simp(disch:=omega)only[go_sem]
    have hcm:=(YT ((b*mid:Nat):Int) (R:Int)).1
    refine qi (fun h6=>?_) (fun h6=>?_)
    ·simp(disch:=omega)only[go_sem,h6]
     have h7:=hcm.1 h6
     exact qe (mid,hi) [] ⟨by show mid<hi;omega,g2,by show b*mid≤R;omega,g4⟩ (by show hi-mid<hi-lo;omega) rfl (by simp(disch:=omega)only[go_sem];try omega) (by simp(disch:=omega)only[go_sem];try rfl)
    ·simp(disch:=omega)only[go_sem,h6]
     have h7:¬((b*mid:Nat):Int)≤(R:Int):=fun h=>h6 (hcm.2 h)
     exact qe (lo,mid) [] ⟨by show lo<mid;omega,by show mid≤65536;omega,g3,by show R<b*mid;omega⟩ (by show mid-lo<hi-lo;omega) rfl (by simp(disch:=omega)only[go_sem];try omega) (by simp(disch:=omega)only[go_sem];try rfl)
   ·simp(disch:=omega)only[go_sem,h5]
    have ehi:hi=lo+1:=by omega
    subst ehi
    have hlo:R/b=lo:=by
     refine Nat.div_eq_of_lt_le ?_ ?_
     ·rw[Nat.mul_comm];exact g3
     ·rw[Nat.mul_comm];exact g4
    have ll:(lim lo).length≤1000000:=by have:=qE (m:=lo) (B:=17) (q9.2 (by omega));omega
    refine⟨by omega,by omega,?_⟩
    refine qv rfl [⟨0,[],[]⟩,⟨1,[0],[]⟩,⟨2,[0,1],[]⟩,⟨3,[0,1],[]⟩,⟨4,[0],[]⟩,⟨5,[],[]⟩,⟨6,[],[]⟩] (by kernel_rfl) ?_
    simp(disch:=omega)only[go_sem]
    refine qa (zF lo (by omega)) ?_
    simp(disch:=omega)only[go_sem]
    refine qa (j8 b lo (by omega) ll) ?_
    simp(disch:=omega)only[go_sem]
    have lR2:(lim R).length≤1000000:=by
     have:=qE (Nat.le_trans (jg (Nat.le_of_lt hRb)) (Nat.le_trans (jH b 65536) (Nat.add_le_add (Q1 (m:=b)) (show bl 65536≤17 from q9.2 (by omega)))))
     omega
    refine qa (QO R (b*lo) g3 lR2) ?_
    simp(disch:=omega)only[go_sem]
    have hsub:R-b*lo=R % b:=by have:=Nat.div_add_mod R b;rw[hlo]at this;omega
    rw[hsub]
    have hV:=Int.emod_add_mul_ediv (vl (A.drop (i+1))) (b:Int)
    have hRI:(R:Int)=(c:Int)+65536*(rest:Int):=by rw[hR];omega
    have hsum:vl (A.drop i)=(R:Int)+(b:Int)*(65536*(vl (A.drop (i+1))/(b:Int))):=by
     rw[hvd,hc,hRI,hr]
     generalize vl (A.drop (i+1))/(b:Int)=q at*
     generalize vl (A.drop (i+1)) % (b:Int)=m at*
     rw[←hV]
     grind
    refine qe (i,out.set i (lo:Int),R % b,false) [] ⟨by show i≤A.length;omega,by simp[hol],Qc hog ⟨by omega,by omega⟩,?_,?_,fun h=>by cases h⟩ (by show i<i+1;omega) rfl (by simp(disch:=omega)only[go_sem];try omega) (by simp(disch:=omega)only[go_sem,cond_false])
    ·show((R % b:Nat):Int)=vl (A.drop i) % (b:Int)
     rw[hsum,Int.add_mul_emod_self_left,Int.natCast_emod]
    ·show vl ((out.set i (lo:Int)).drop i)=vl (A.drop i)/(b:Int)
     rw[hsum,Int.add_mul_ediv_left _ _ (by omega),drop_set (by omega),vl,hov,←Int.natCast_ediv,hlo]
end Go.Ab
namespace Go.Ab
open Go Go.Proofs
def quK(N D:Nat):Int:=58-((bl N:Int)-(bl D:Int))
def quA(N D:Nat):Nat:=N*2^(quK N D).toNat
def quB(N D:Nat):Nat:=D*2^(-quK N D).toNat
def quQ(N D:Nat):Nat:=stk (quA N D) (quB N D)
def quT(N D:Nat):Int:=if quB N D*2^58≤quA N D then(bl N:Int)-(bl D:Int)+1 else(bl N:Int)-(bl D:Int)
theorem aNi(k:Nat):0<2^k:=Nat.pow_pos (by omega)
theorem aNa{s:Bool}{a b a' b' i i':Nat}{mode:Int}(h1:a*2^i=a'*2^i')(h2:b*2^i=b'*2^i'):rq s a b mode=rq s a' b' mode∧(a % b=0↔a' % b'=0):=by
 constructor
 ·rw[←JL (k:=i),h1,h2,JL]
 ·have p1:2^i≠0:=Nat.pos_iff_ne_zero.1 (aNi i)
  have p2:2^i'≠0:=Nat.pos_iff_ne_zero.1 (aNi i')
  have e1:a % b*2^i=a' % b'*2^i':=by rw[←Nat.mul_mod_mul_right,←Nat.mul_mod_mul_right,h1,h2]
  constructor
  ·intro h;rw[h,Nat.zero_mul]at e1;exact(Nat.mul_eq_zero.1 e1.symm).resolve_right p2
  ·intro h;rw[h,Nat.zero_mul]at e1;exact(Nat.mul_eq_zero.1 e1).resolve_right p1
end Go.Ab
namespace Go.Ab
open Go Go.Proofs
end Go.Ab
namespace Go.Ab
open Go Go.Proofs
end Go.Ab
namespace Go.Ab
open Go Go.Proofs
def br7(xs:List Int)(e:Int):Bool:=
 Xu xs&&((decide (-800≤e)&&decide (e≤800))&&(decide ((vl xs).toNat % 10≠0)||(decide (xs.length=0)&&decide (e=0))))
def dfV(s:Bool)(m:Nat)(e mode:Int):FlV:=if m=0 then⟨0,s,0,0⟩else flV s (quQ (m*10^e.toNat) (10^(-e).toNat)) (-quK (m*10^e.toNat) (10^(-e).toNat)-1) mode s
def dfG(s:Bool)(m:Nat)(e mode:Int):Int:=if m=0 then 0 else flG s (quQ (m*10^e.toNat) (10^(-e).toNat)) (-quK (m*10^e.toNat) (10^(-e).toNat)-1) mode
end Go.Ab
namespace Go.Ab
open Go Go.Proofs
theorem XM(a b:Nat)(la:(lim a).length≤100000)(lb:(lim b).length≤100000)(hb:b≠0):Con Tryz.prog 251 false [.ag [.sl (lim (a)).length (qg (lim (a)))],.ag [.sl (lim (b)).length (qg (lim (b)))]] [] (isA (.tu [.ag [.sl (lim (a/b)).length (qg (lim (a/b)))],.ag [.sl (lim (a % b)).length (qg (lim (a % b)))]])):=by
 by_cases h1:(lim b).length=1
 ·have hb2:b<65536:=by have:=Ji b;rw[h1]at this;simpa using this
  have e:lim b=[(b:Int)]:=by rw[yW hb,Nat.div_eq_of_lt hb2,qz,Nat.mod_eq_of_lt hb2]
  have:=adl a b la (Nat.pos_of_ne_zero hb) hb2
  rw[e];exact this
 ·exact adm a b la lb hb h1
theorem aoI(s1:Bool)(m1:Nat)(e1:Int)(s2:Bool)(m2:Nat)(e2 low:Int)(h1:m1≠0)(h2:m2≠0)(hb1:bl m1≤100000)(hb2:bl m2≤100000)(hk: -200000≤e1-e2-low∧e1-e2-low≤200000)
  (he1: -2^39≤e1∧e1≤2^39) (he2: -2^39≤e2∧e2≤2^39) (hlo: -2^39≤low∧low≤2^39) (A B:Nat) (hA:m1*2^(e1-e2-low+2).toNat=A) (hB:m2*2^(-(e1-e2-low+2)).toNat=B):
  Con Tryz.prog 184 false [.ag [.v (.bool (s1)),.sl (lim (m1)).length (qg (lim (m1))),.v (.int .i64 (e1))],.ag [.v (.bool (s2)),.sl (lim (m2)).length (qg (lim (m2))),.v (.int .i64 (e2))],.v (.int .i64 low)] [] (isA (.ag [.v (.bool (oS (s1 != s2) (stk A B))),.sl (lim (oM (stk A B))).length (qg (lim (oM (stk A B)))),.v (.int .i64 (oE (stk A B) (low-3)))])):=by
 refine Con.frzA ?_
 have q1:decide (((lim m1).length:Int)=0)=false:=decide_eq_false (by have:=Qt h1;omega)
 have l1:=qE hb1
 have l2:=qE hb2
 have bA:bl A≤300010:=by rw[←hA];have:=Q7 m1 (e1-e2-low+2).toNat;omega
 have bB:bl B≤300010:=by rw[←hB];have:=Q7 m2 (-(e1-e2-low+2)).toNat;omega
 have lA:=qE bA
 have lB:=qE bB
 have B0:B≠0:=by rw[←hB];exact Nat.mul_ne_zero h2 (Nat.pos_iff_ne_zero.1 (Nat.pow_pos (by omega)))
 have bq:=y8 A B
 have hq1:(lim (A/B)).length≤100000:=by have:=qE (Nat.le_trans bq bA);omega
 have bq2:bl (A/B*2^1)≤300011:=by have:=Q7 (A/B) 1;omega
 have hq2:=qE bq2
 have bq3:bl (A/B*2^1+1)≤300012:=by have:=Ja (A/B*2^1);omega
 have hq3:=qE bq3
 have hr:(lim (A % B)).length≤100000:=Nat.le_trans (yX (Nat.le_of_lt (Nat.mod_lt A (Nat.pos_of_ne_zero B0)))) (by omega)
 have fin:∀Q:Nat,stk A B=Q→bl Q≤300012→Con Tryz.prog 94 false [.ag [.v (.bool ((s1 != s2)&&decide (Q≠0))),.sl (lim (Q)).length (qg (lim (Q)))],.v (.int .i64 (low-3))] [] (isA (.ag [.v (.bool (oS (s1 != s2) (stk A B))),.sl (lim (oM (stk A B))).length (qg (lim (oM (stk A B)))),.v (.int .i64 (oE (stk A B) (low-3)))])):=fun Q hQ hb=>by
  have:=jA ((s1 != s2)&&decide (Q≠0)) Q (low-3) (by omega) (by omega)
  have e:oS ((s1 != s2)&&decide (Q≠0)) Q=oS (s1 != s2) Q:=by
   unfold oS
   by_cases h0:Q=0
   ·rw[if_pos h0,if_pos h0]
   ·rw[if_neg h0,if_neg h0,decide_eq_true h0,Bool.and_true]
  rw[e]at this
  rw[hQ];exact this
 have d0:stk A B=A/B*2^1+(if A % B=0 then 0 else 1):=by unfold stk;omega
 refine Con.of_w (rs:=[.cell 6 44]) Tryz.func184 rfl Tryz.ntmps184 rfl ?_
 simp(disch:=omega)only[go_sem]
 simp(disch:=omega)only[go_sem,q1]
 refine qi (fun h3=>?_) (fun h3=>?_)
 ·have ek:e1-e2-low+2=(((e1-e2-low+2).toNat:Nat):Int):=by omega
  have e0:(-(e1-e2-low+2)).toNat=0:=by omega
  rw[e0,Nat.pow_zero,Nat.mul_one]at hB
  subst hB
  have cs:=j6 m1 (e1-e2-low+2).toNat (by omega) (by omega)
  rw[hA,←ek]at cs
  simp(disch:=omega)only[go_sem,h3]
  refine qa (cs) ?_
  simp(disch:=omega)only[go_sem]
  refine qa (XM A m2 (by omega) (by omega) B0) ?_
  simp(disch:=omega)only[go_sem]
  refine qa (j6 (A/m2) 1 (by omega) (by omega)) ?_
  simp(disch:=omega)only[go_sem]
  by_cases hz:A % m2=0
  ·have q2:decide ((0:Int)<((lim (A % m2)).length:Int))=false:=by rw[hz,qz];rfl
   rw[if_pos hz,Nat.add_zero]at d0
   simp(disch:=omega)only[go_sem,q2]
   refine qa (qV (s1 != s2) (A/m2*2^1) (by omega)) ?_
   simp(disch:=omega)only[go_sem]
   refine qa (fin _ d0 (by omega)) ?_
   simp(disch:=omega)only[go_sem]
   exact qu
  ·have q2:decide ((0:Int)<((lim (A % m2)).length:Int))=true:=decide_eq_true (by have:=Qt hz;omega)
   rw[if_neg hz]at d0
   simp(disch:=omega)only[go_sem,q2]
   refine qv rfl [⟨0,[],[]⟩,⟨1,[0],[]⟩,⟨2,[],[]⟩,⟨3,[],[]⟩] (by kernel_rfl) ?_
   simp(disch:=omega)only[go_sem]
   refine qa (zF 1 (by omega)) ?_
   simp(disch:=omega)only[go_sem]
   refine qa (yK (A/m2*2^1) 1 (by omega) (by have:=qE (m:=1) (B:=1) (by decide);omega)) ?_
   simp(disch:=omega)only[go_sem]
   refine qa (qV (s1 != s2) (A/m2*2^1+1) (by omega)) ?_
   simp(disch:=omega)only[go_sem]
   refine qa (fin _ d0 (by omega)) ?_
   simp(disch:=omega)only[go_sem]
   exact qu
 ·have ek:0-(e1-e2-low+2)=(((-(e1-e2-low+2)).toNat:Nat):Int):=by omega
  have e0:(e1-e2-low+2).toNat=0:=by omega
  rw[e0,Nat.pow_zero,Nat.mul_one]at hA
  subst hA
  have cs:=j6 m2 (-(e1-e2-low+2)).toNat (by omega) (by omega)
  rw[hB,←ek]at cs
  simp(disch:=omega)only[go_sem,h3]
  refine qa (cs) ?_
  simp(disch:=omega)only[go_sem]
  refine qa (XM m1 B (by omega) (by omega) B0) ?_
  simp(disch:=omega)only[go_sem]
  refine qa (j6 (m1/B) 1 (by omega) (by omega)) ?_
  simp(disch:=omega)only[go_sem]
  by_cases hz:m1 % B=0
  ·have q2:decide ((0:Int)<((lim (m1 % B)).length:Int))=false:=by rw[hz,qz];rfl
   rw[if_pos hz,Nat.add_zero]at d0
   simp(disch:=omega)only[go_sem,q2]
   refine qa (qV (s1 != s2) (m1/B*2^1) (by omega)) ?_
   simp(disch:=omega)only[go_sem]
   refine qa (fin _ d0 (by omega)) ?_
   simp(disch:=omega)only[go_sem]
   exact qu
  ·have q2:decide ((0:Int)<((lim (m1 % B)).length:Int))=true:=decide_eq_true (by have:=Qt hz;omega)
   rw[if_neg hz]at d0
   simp(disch:=omega)only[go_sem,q2]
   refine qv rfl [⟨0,[],[]⟩,⟨1,[0],[]⟩,⟨2,[],[]⟩,⟨3,[],[]⟩] (by kernel_rfl) ?_
   simp(disch:=omega)only[go_sem]
   refine qa (zF 1 (by omega)) ?_
   simp(disch:=omega)only[go_sem]
   refine qa (yK (m1/B*2^1) 1 (by omega) (by have:=qE (m:=1) (B:=1) (by decide);omega)) ?_
   simp(disch:=omega)only[go_sem]
   refine qa (qV (s1 != s2) (m1/B*2^1+1) (by omega)) ?_
   simp(disch:=omega)only[go_sem]
   refine qa (fin _ d0 (by omega)) ?_
   simp(disch:=omega)only[go_sem]
   exact qu
end Go.Ab
namespace Go.Ab
open Go Go.Proofs
/-! ### The specification's numbers of any size,in their one form-/
theorem axm{x:ExV}(h:x.can=x):(x.m % 2=1∨x.m=0)∧(x.m=0→x=ex0):=by
 have e:oM x.m=x.m:=congrArg ExV.m h
 refine⟨by have:=aNl x.m;rw[e]at this;exact this,fun h0=>?_⟩
 rw[←h]
 show(⟨oS x.s x.m,oM x.m,oE x.m x.e⟩:ExV)=ex0
 rw[h0,jv];rfl
theorem yo(x:ExV)(low mode:Int)(hx:x.can=x)(hm:0≤mode∧mode≤4)(bx:x.bd (-400000) 400000)(hl: -400000≤low∧low≤400000):
  Con Tryz.prog 97 false [.ag [.v (.bool (x).s),.sl (lim (x).m).length (qg (lim (x).m)),.v (.int .i64 (x).e)],.v (.int .i64 low),.v (.int .i64 mode)] [] (isA (.tu [.ag [.v (.bool ((x.rnd low mode).can).s),.sl (lim ((x.rnd low mode).can).m).length (qg (lim ((x.rnd low mode).can).m)),.v (.int .i64 ((x.rnd low mode).can).e)],.v (.bool (roX x.m x.e low))])):=by
 obtain⟨ho,hz⟩:=axm hx
 obtain⟨a,b,c⟩:=bx
 have cr:=ahO x.s x.m x.e low mode ho a hm (by omega) (by omega) (by omega)
 have e:srE x.s x.m x.e low mode=(x.rnd low mode).can.e:=by
  show _=oE (roM x.s x.m x.e low mode) (roE x.m x.e low)
  rcases ho with ho|h0
  ·exact(blx ho).2
  ·obtain rfl:=hz h0
   unfold srE roM roE
   have c:low≤ex0.e∨ex0.m=0:=.inr rfl
   rw[if_pos c,if_pos c,if_pos c]
   rfl
 rw[e]at cr
 exact cr
theorem aNe{K:Nat}{x:ExV}{low md:Int}(hx: -(K:Int)≤x.e)(hl: -(K:Int)≤low): -(K:Int)≤(x.rnd low md).e:=by
 show-(K:Int)≤roE x.m x.e low
 unfold roE;split<;>omega
theorem aWZ{K:Nat}{y:ExV}(h0:y.m=0):y.val K=0:=by
 show sv y.s y.m*_=0
 rw[h0];simp[sv]
theorem aiL{K:Nat}{s:Bool}{m:Nat}{e low md:Int}(he: -(K:Int)≤e)(h:¬(low≤e∨m=0)):(ExV.rnd ⟨s,m,e⟩ low md).val K=sv s (rq s m (2^(low-e).toNat) md)*p2 (low+(K:Int)).toNat:=by
 unfold ExV.rnd roS roM roE ExV.val
 dsimp only
 rw[if_neg h,if_neg h,if_neg h,XA]
 rfl
theorem agV{x:ExV}{low md:Int}:(x.can.rnd low md).can=(x.rnd low md).can:=by
 obtain⟨K,hK⟩:∃K:Nat, -(K:Int)≤x.e∧ -(K:Int)≤low:=⟨(max (-x.e) (-low)).toNat,by omega,by omega⟩
 have hc:=jP (K:=K) hK.1
 refine Jo (K:=K) (aNe hc hK.2) (aNe hK.1 hK.2) ?_
 by_cases h0:x.m=0
 ·have e1:x.can=ex0:=by
   show(⟨oS x.s x.m,oM x.m,oE x.m x.e⟩:ExV)=ex0
   rw[h0,jv];rfl
  have e2:∀y:ExV,y.m=0→(y.rnd low md).val K=0:=fun y hy=>by
   refine aWZ ?_
   show roM _ _ _ _ _=0
   unfold roM;rw[if_pos (.inr hy)];exact hy
  rw[e1,e2 ex0 rfl,e2 x h0]
 have e3:x.can.e=x.e+tz x.m:=by show oE x.m x.e=_;unfold oE;rw[if_neg h0]
 have e4:x.can.m*2^tz x.m=x.m:=Jh
 have hz:x.can.m≠0:=fun e=>by rw[e,Nat.zero_mul]at e4;exact h0 e4.symm
 have es:x.can.s=x.s:=by show oS x.s x.m=x.s;unfold oS;rw[if_neg h0]
 by_cases c1:low≤x.e
 ·have u:∀y:ExV,low≤y.e→y.rnd low md=y:=fun y hy=>by
   obtain⟨s,m,e⟩:=y
   unfold ExV.rnd roS roM roE
   dsimp only at hy ⊢
   rw[if_pos (.inl hy),if_pos (.inl hy),if_pos (.inl hy)]
  rw[u x c1,u x.can (by omega),z7 hK.1]
 ·have hx:¬(low≤x.e∨x.m=0):=by omega
  have v1:=aiL (K:=K) (s:=x.s) (m:=x.m) (e:=x.e) (low:=low) (md:=md) hK.1 hx
  have v1:(x.rnd low md).val K=_:=v1
  rw[v1]
  by_cases c2:low≤x.can.e
  ·have u:x.can.rnd low md=x.can:=by
    generalize x.can=y at*
    obtain⟨s,m,e⟩:=y
    unfold ExV.rnd roS roM roE
    dsimp only at c2 ⊢
    rw[if_pos (.inl c2),if_pos (.inl c2),if_pos (.inl c2)]
   rw[u,z7 hK.1]
   obtain⟨j,hj⟩:∃j,tz x.m=j+(low-x.e).toNat:=⟨tz x.m-(low-x.e).toNat,by omega⟩
   have em:x.m=(x.can.m*2^j)*2^(low-x.e).toNat:=by rw[Nat.mul_assoc,←Nat.pow_add,←hj,e4]
   have er:rq x.s x.m (2^(low-x.e).toNat) md=x.can.m*2^j:=by
    have:=@JL x.s (x.can.m*2^j) 1 (low-x.e).toNat md
    rw[Nat.one_mul,←em,aX0]at this
    exact this
   rw[er]
   show sv x.s x.m*p2 (x.e+(K:Int)).toNat=_
   rw[show(low+(K:Int)).toNat=(low-x.e).toNat+(x.e+(K:Int)).toNat by omega,zI,←Int.mul_assoc]
   congr 1
   have e5:((2^(low-x.e).toNat:Nat):Int)=p2 (low-x.e).toNat:=by rw[Int.natCast_pow];rfl
   conv=>lhs;rw[em]
   rw[J1,e5]
  ·have hx2:¬(low≤x.can.e∨x.can.m=0):=by omega
   have v2:=aiL (K:=K) (s:=x.can.s) (m:=x.can.m) (e:=x.can.e) (low:=low) (md:=md) hc hx2
   have v2:(x.can.rnd low md).val K=_:=v2
   rw[v2,es]
   congr 2
   have:=@JL x.s x.can.m (2^(low-x.can.e).toNat) (tz x.m) md
   rw[e4,←Nat.pow_add]at this
   rw[←this]
   congr 2
   omega
theorem ahP(x y:ExV)(low:Int)(h0:x.m=0):Con Tryz.prog 184 false [.ag [.v (.bool (x).s),.sl (lim (x).m).length (qg (lim (x).m)),.v (.int .i64 (x).e)],.ag [.v (.bool (y).s),.sl (lim (y).m).length (qg (lim (y).m)),.v (.int .i64 (y).e)],.v (.int .i64 low)] [] (isA (.ag [.v (.bool (ex0).s),.sl (lim (ex0).m).length (qg (lim (ex0).m)),.v (.int .i64 (ex0).e)])):=by
 refine Con.frzA ?_
 have q1:decide (((lim x.m).length:Int)=0)=true:=by rw[h0,qz];rfl
 refine Con.of_w (rs:=[.cell 6 44]) Tryz.func184 rfl Tryz.ntmps184 rfl ?_
 simp(disch:=omega)only[go_sem,q1]
 exact qu (hp:=by simp(disch:=omega)only[go_sem,ex0,qz])
theorem Yg{x y:ExV}{low mode:Int}(h0:x.m=0):(x.over y low mode).can=ex0:=by
 have hq:ovQ (x.s != y.s) x.m x.e y.m y.e low mode=0:=by
  unfold ovQ ovA rq
  rw[h0];simp
 show(⟨oS _ (ovQ _ _ _ _ _ _ _),oM (ovQ (x.s != y.s) x.m x.e y.m y.e low mode),oE (ovQ (x.s != y.s) x.m x.e y.m y.e low mode) low⟩:ExV)=ex0
 rw[hq,jv];rfl
theorem XK(x y:ExV)(low mode:Int)(hx:x.can=x)(hy0:y.m≠0)(hm:0≤mode∧mode≤4)(bx:x.bd (-90000) 10000)(by':y.bd (-10000) 10000)(hl: -10000≤low∧low≤10000):
  Con Tryz.prog 100 false [.ag [.v (.bool (x).s),.sl (lim (x).m).length (qg (lim (x).m)),.v (.int .i64 (x).e)],.ag [.v (.bool (y).s),.sl (lim (y).m).length (qg (lim (y).m)),.v (.int .i64 (y).e)],.v (.int .i64 low),.v (.int .i64 mode)] [] (isA (.ag [.v (.bool ((x.over y low mode).can).s),.sl (lim ((x.over y low mode).can).m).length (qg (lim ((x.over y low mode).can).m)),.v (.int .i64 ((x.over y low mode).can).e)])):=by
 refine Con.frzA ?_
 by_cases h0:x.m=0
 ·have cq:=ahP x y low h0
  have c0:ex0.can=ex0:=aiS ac0
  have cr:=yo ex0 low mode c0 hm (Yy (by omega) (by omega)) (by omega)
  have er:(ex0.rnd low mode).can=ex0:=by
   have:ex0.rnd low mode=ex0:=by
    show(⟨roS false 0 0 low mode,roM false 0 0 low mode,roE 0 0 low⟩:ExV)=ex0
    unfold roS roM roE
    rw[if_pos (.inr rfl),if_pos (.inr rfl),if_pos (.inr rfl)];rfl
   rw[this,c0]
  rw[er]at cr
  rw[Yg h0]
  generalize ex0=z at*
  refine Con.of_w (rs:=[.cell 8 44]) Tryz.func100 rfl Tryz.ntmps100 rfl ?_
  simp(disch:=omega)only[go_sem]
  refine qa (cq) ?_
  simp(disch:=omega)only[go_sem]
  refine qa (cr) ?_
  simp(disch:=omega)only[go_sem]
  exact qu
 ·obtain⟨a1,a2,a3⟩:=bx
  obtain⟨b1,b2,b3⟩:=by'
  have cq:=aoI x.s x.m x.e y.s y.m y.e low h0 hy0 (by omega) (by omega) (by omega) (by omega) (by omega) (by omega) _ _ rfl rfl
  obtain⟨A,hA⟩:∃A,A=x.m*2^(x.e-y.e-low+2).toNat:=⟨_,rfl⟩
  obtain⟨B,hB⟩:∃B,B=y.m*2^(-(x.e-y.e-low+2)).toNat:=⟨_,rfl⟩
  rw[←hA,←hB]at cq
  have hB0:0<B:=by rw[hB];exact Nat.mul_pos (Nat.pos_of_ne_zero hy0) (Nat.pow_pos (by decide))
  have hA0:A≠0:=by rw[hA];exact Nat.mul_ne_zero h0 (Nat.pos_iff_ne_zero.1 (Nat.pow_pos (by decide)))
  have hq0:stk A B≠0:=fun e=>by
   unfold stk at e
   have h1:=Nat.div_add_mod A B
   have h2:A/B=0:=by omega
   have h3:A % B=0:=by
    by_cases c:A % B=0
    ·exact c
    ·rw[if_neg c]at e;omega
   rw[h2,h3]at h1;simp at h1;exact hA0 h1.symm
  obtain⟨q,hq⟩:∃q:ExV,q=⟨x.s != y.s,stk A B,low-3⟩:=⟨_,rfl⟩
  have eq1:q.can=⟨oS (x.s != y.s) (stk A B),oM (stk A B),oE (stk A B) (low-3)⟩:=by rw[hq];rfl
  change Con _ _ _ _ _ (isA (.ag [.v (.bool ((ExV.mk (oS (x.s != y.s) (stk A B)) (oM (stk A B)) (oE (stk A B) (low-3)))).s),.sl (lim ((ExV.mk (oS (x.s != y.s) (stk A B)) (oM (stk A B)) (oE (stk A B) (low-3)))).m).length (qg (lim ((ExV.mk (oS (x.s != y.s) (stk A B)) (oM (stk A B)) (oE (stk A B) (low-3)))).m)),.v (.int .i64 ((ExV.mk (oS (x.s != y.s) (stk A B)) (oM (stk A B)) (oE (stk A B) (low-3)))).e)]))at cq
  rw[←eq1]at cq
  have bA:bl A≤300000:=by rw[hA];have:=Q7 x.m (x.e-y.e-low+2).toNat;omega
  have bq:q.bd (-400000) 400000:=by
   rw[hq]
   refine⟨fun h=>absurd h hq0,by show(-400000:Int)≤low-3;omega,?_⟩
   show(bl (stk A B):Int)+(low-3)≤400000
   have h1:stk A B≤A/B*2^1+1:=by unfold stk;split<;>omega
   have h2:=jg h1
   have h3:=Ja (A/B*2^1)
   have h4:=Q7 (A/B) 1
   have h5:=y8 A B
   omega
  have cr:=yo q.can low mode (V3 q) hm (QE bq (by omega) (by omega)) (by omega)
  rw[agV]at cr
  have er:q.rnd low mode=x.over y low mode:=by
   have hr:rq (x.s != y.s) (stk A B) (2^(low-(low-3)).toNat) mode=ovQ (x.s != y.s) x.m x.e y.m y.e low mode:=by
    rw[show(low-(low-3)).toNat=2+1 by omega,aXZ hB0 (by decide)]
    unfold ovQ ovA
    obtain⟨k,hk⟩:∃k,k=x.e-y.e-low:=⟨_,rfl⟩
    rw[←hk]at hA hB ⊢
    refine(aNa (i:=0) (i':=(k+2).toNat-k.toNat) ?_ ?_).1
    ·rw[hA,Nat.pow_zero,Nat.mul_one,Nat.mul_assoc,←Nat.pow_add]
     congr 2
     omega
    ·rw[hB,Nat.pow_zero,Nat.mul_one,Nat.mul_assoc,Nat.mul_assoc,←Nat.pow_add,←Nat.pow_add]
     congr 2
     omega
   have hc:¬(low≤low-3∨stk A B=0):=by omega
   rw[hq]
   unfold ExV.rnd ExV.over roS roM roE
   dsimp only
   rw[if_neg hc,if_neg hc,if_neg hc,hr]
  rw[er]at cr
  generalize (x.over y low mode).can=z at*
  generalize q.can=qc at*
  refine Con.of_w (rs:=[.cell 8 44]) Tryz.func100 rfl Tryz.ntmps100 rfl ?_
  simp(disch:=omega)only[go_sem]
  refine qa (cq) ?_
  simp(disch:=omega)only[go_sem]
  refine qa (cr) ?_
  simp(disch:=omega)only[go_sem]
  exact qu
theorem Z8(x y:ExV)(hx:x.bd (-400000) 400000)(hy:y.bd (-400000) 400000):Con Tryz.prog 92 true [.ag [.v (.bool (x).s),.sl (lim (x).m).length (qg (lim (x).m)),.v (.int .i64 (x).e)],.ag [.v (.bool (y).s),.sl (lim (y).m).length (qg (lim (y).m)),.v (.int .i64 (y).e)]] [] (isA (.v (.int .i64 (x.cmp y)))):=by
 have e:=yi (K:=400000) (x:=x) (y:=y) (by have:=hx.2.1;omega) (by have:=hy.2.1;omega)
 rw[e]
 obtain⟨a1,a2,a3⟩:=hx
 obtain⟨b1,b2,b3⟩:=hy
 exact adi 400000 x.s x.m x.e y.s y.m y.e (by omega) (by omega) (by omega) (by omega) (by omega) (by omega) a1 b1
theorem ajo(x y:ExV):x.cmp y= -(y.cmp x):=by
 obtain⟨K,hK⟩:∃K:Nat, -(K:Int)≤x.e∧ -(K:Int)≤y.e:=⟨(max (-x.e) (-y.e)).toNat,by omega,by omega⟩
 rw[yi hK.1 hK.2,yi hK.2 hK.1]
 unfold zH
 split<;>(try split)<;>(try split)<;>omega
theorem ahN(x y:ExV)(hx:x.bd (-400000) 400000)(hy:y.bd (-400000) 400000):Con Tryz.prog 265 false [.ag [.v (.bool (x).s),.sl (lim (x).m).length (qg (lim (x).m)),.v (.int .i64 (x).e)],.ag [.v (.bool (y).s),.sl (lim (y).m).length (qg (lim (y).m)),.v (.int .i64 (y).e)]] [] (isA (.ag [.v (.bool (qU x y).s),.sl (lim (qU x y).m).length (qg (lim (qU x y).m)),.v (.int .i64 (qU x y).e)])):=by
 refine Con.frzA ?_
 have cc:=Z8 x y hx hy
 have hf:=ajo x y
 unfold qU
 generalize x.cmp y=C at*
 generalize y.cmp x=D at*
 refine Con.of_w (rs:=[.cell 4 44]) Tryz.func265 rfl Tryz.ntmps265 rfl ?_
 simp(disch:=omega)only[go_sem]
 refine qn (cc) ?_
 simp(disch:=omega)only[go_sem]
 by_cases h:C≤0
 ·simp(disch:=omega)only[go_sem,decide_eq_true h]
  rw[if_neg (by omega)]
  exact qu
 ·simp(disch:=omega)only[go_sem,decide_eq_false h]
  rw[if_pos (by omega)]
  exact qu
theorem YG(x y:ExV)(hx:x.bd (-400000) 400000)(hy:y.bd (-400000) 400000):Con Tryz.prog 152 false [.ag [.v (.bool (x).s),.sl (lim (x).m).length (qg (lim (x).m)),.v (.int .i64 (x).e)],.ag [.v (.bool (y).s),.sl (lim (y).m).length (qg (lim (y).m)),.v (.int .i64 (y).e)]] [] (isA (.ag [.v (.bool (zb x y).s),.sl (lim (zb x y).m).length (qg (lim (zb x y).m)),.v (.int .i64 (zb x y).e)])):=by
 refine Con.frzA ?_
 have cc:=Z8 x y hx hy
 have hf:=ajo x y
 unfold zb
 generalize x.cmp y=C at*
 generalize y.cmp x=D at*
 refine Con.of_w (rs:=[.cell 4 44]) Tryz.func152 rfl Tryz.ntmps152 rfl ?_
 simp(disch:=omega)only[go_sem]
 refine qn (cc) ?_
 simp(disch:=omega)only[go_sem]
 by_cases h:0≤C
 ·simp(disch:=omega)only[go_sem,decide_eq_true h]
  rw[if_neg (by omega)]
  exact qu
 ·simp(disch:=omega)only[go_sem,decide_eq_false h]
  rw[if_pos (by omega)]
  exact qu
theorem aoJ(x:ExV)(hx:x.bd (-400000) 400000):Con Tryz.prog 103 false [.ag [.v (.bool (x).s),.sl (lim (x).m).length (qg (lim (x).m)),.v (.int .i64 (x).e)]] [] (isA (.ag [.v (.bool (x.neg).s),.sl (lim (x.neg).m).length (qg (lim (x.neg).m)),.v (.int .i64 (x.neg).e)])):=by
 have:=qE (m:=x.m) (B:=800000) (by have:=hx.2.1;have:=hx.2.2;omega)
 exact awO x.s x.m x.e (by omega)
theorem XJ(s t:SpV)(hs:s.bd (-400000) 400000)(ht:t.bd (-400000) 400000):Con Tryz.prog 210 false [.ag [.v (.bool (s).lo.s),.sl (lim (s).lo.m).length (qg (lim (s).lo.m)),.v (.int .i64 (s).lo.e),.v (.bool (s).hi.s),.sl (lim (s).hi.m).length (qg (lim (s).hi.m)),.v (.int .i64 (s).hi.e)],.ag [.v (.bool (t).lo.s),.sl (lim (t).lo.m).length (qg (lim (t).lo.m)),.v (.int .i64 (t).lo.e),.v (.bool (t).hi.s),.sl (lim (t).hi.m).length (qg (lim (t).hi.m)),.v (.int .i64 (t).hi.e)]] [] (isA (.ag [.v (.bool ((s.plus t).can).lo.s),.sl (lim ((s.plus t).can).lo.m).length (qg (lim ((s.plus t).can).lo.m)),.v (.int .i64 ((s.plus t).can).lo.e),.v (.bool ((s.plus t).can).hi.s),.sl (lim ((s.plus t).can).hi.m).length (qg (lim ((s.plus t).can).hi.m)),.v (.int .i64 ((s.plus t).can).hi.e)])):=by
 refine Con.frzA ?_
 have c1:=yJ s.lo t.lo hs.1 ht.1
 have c2:=yJ s.hi t.hi hs.2 ht.2
 unfold SpV.can SpV.plus
 dsimp only
 generalize (s.lo.plus t.lo).can=a at*
 generalize (s.hi.plus t.hi).can=b at*
 refine Con.of_w (rs:=[.cell 4 167]) Tryz.func210 rfl Tryz.ntmps210 rfl ?_
 simp(disch:=omega)only[go_sem]
 refine qv rfl [⟨0,[],[]⟩,⟨1,[],[]⟩,⟨2,[1],[]⟩,⟨3,[1],[]⟩,⟨5,[1,3],[]⟩,⟨6,[1,3],[]⟩,⟨7,[1,3,6],[]⟩,⟨8,[1,3,6],[]⟩,⟨4,[6,8],[]⟩,⟨9,[],[]⟩,⟨10,[],[]⟩,⟨11,[],[]⟩] (by kernel_rfl) ?_
 simp(disch:=omega)only[go_sem]
 refine qa (c1) ?_
 simp(disch:=omega)only[go_sem]
 refine qa (c2) ?_
 simp(disch:=omega)only[go_sem]
 exact qu
theorem aoG(s:SpV)(low:Int)(h1:s.lo.can=s.lo)(h2:s.hi.can=s.hi)(hs:s.bd (-400000) 400000)(hl: -400000≤low∧low≤400000):Con Tryz.prog 131 false [.ag [.v (.bool (s).lo.s),.sl (lim (s).lo.m).length (qg (lim (s).lo.m)),.v (.int .i64 (s).lo.e),.v (.bool (s).hi.s),.sl (lim (s).hi.m).length (qg (lim (s).hi.m)),.v (.int .i64 (s).hi.e)],.v (.int .i64 low)] [] (isA (.ag [.v (.bool ((s.out low).can).lo.s),.sl (lim ((s.out low).can).lo.m).length (qg (lim ((s.out low).can).lo.m)),.v (.int .i64 ((s.out low).can).lo.e),.v (.bool ((s.out low).can).hi.s),.sl (lim ((s.out low).can).hi.m).length (qg (lim ((s.out low).can).hi.m)),.v (.int .i64 ((s.out low).can).hi.e)])):=by
 refine Con.frzA ?_
 have c1:=yo s.lo low 3 h1 (by omega) hs.1 hl
 have c2:=yo s.hi low 2 h2 (by omega) hs.2 hl
 unfold SpV.can SpV.out
 dsimp only
 generalize (s.lo.rnd low 3).can=a at*
 generalize (s.hi.rnd low 2).can=b at*
 refine Con.of_w (rs:=[.cell 4 167]) Tryz.func131 rfl Tryz.ntmps131 rfl ?_
 simp(disch:=omega)only[go_sem]
 refine qa (c1) ?_
 simp(disch:=omega)only[go_sem]
 refine qa (c2) ?_
 simp(disch:=omega)only[go_sem]
 exact qu
theorem aoH(s t:SpV)(hs:s.bd (-190000) 190000)(ht:t.bd (-190000) 190000):Con Tryz.prog 211 false [.ag [.v (.bool (s).lo.s),.sl (lim (s).lo.m).length (qg (lim (s).lo.m)),.v (.int .i64 (s).lo.e),.v (.bool (s).hi.s),.sl (lim (s).hi.m).length (qg (lim (s).hi.m)),.v (.int .i64 (s).hi.e)],.ag [.v (.bool (t).lo.s),.sl (lim (t).lo.m).length (qg (lim (t).lo.m)),.v (.int .i64 (t).lo.e),.v (.bool (t).hi.s),.sl (lim (t).hi.m).length (qg (lim (t).hi.m)),.v (.int .i64 (t).hi.e)]] [] (isA (.ag [.v (.bool ((SpV.mk (zq ((qG ExV.times s t).map ExV.can)) (zh ((qG ExV.times s t).map ExV.can)))).lo.s),.sl (lim ((SpV.mk (zq ((qG ExV.times s t).map ExV.can)) (zh ((qG ExV.times s t).map ExV.can)))).lo.m).length (qg (lim ((SpV.mk (zq ((qG ExV.times s t).map ExV.can)) (zh ((qG ExV.times s t).map ExV.can)))).lo.m)),.v (.int .i64 ((SpV.mk (zq ((qG ExV.times s t).map ExV.can)) (zh ((qG ExV.times s t).map ExV.can)))).lo.e),.v (.bool ((SpV.mk (zq ((qG ExV.times s t).map ExV.can)) (zh ((qG ExV.times s t).map ExV.can)))).hi.s),.sl (lim ((SpV.mk (zq ((qG ExV.times s t).map ExV.can)) (zh ((qG ExV.times s t).map ExV.can)))).hi.m).length (qg (lim ((SpV.mk (zq ((qG ExV.times s t).map ExV.can)) (zh ((qG ExV.times s t).map ExV.can)))).hi.m)),.v (.int .i64 ((SpV.mk (zq ((qG ExV.times s t).map ExV.can)) (zh ((qG ExV.times s t).map ExV.can)))).hi.e)])):=by
 refine Con.frzA ?_
 have hm:∀x:ExV,x.bd (-190000) 190000→x.bd (-400000) 400000:=fun x h=>h.mono (by omega) (by omega)
 have c1:=yI s.lo t.lo (hm _ hs.1) (hm _ ht.1)
 have c2:=yI s.lo t.hi (hm _ hs.1) (hm _ ht.2)
 have c3:=yI s.hi t.lo (hm _ hs.2) (hm _ ht.1)
 have c4:=yI s.hi t.hi (hm _ hs.2) (hm _ ht.2)
 have bb:∀x y:ExV,x.bd (-190000) 190000→y.bd (-190000) 190000→(x.times y).can.bd (-400000) 400000:=fun x y h1 h2=>QE ((ExV.times_bd h1 h2).mono (by omega) (by omega)) (by omega) (by omega)
 have b1:=bb _ _ hs.1 ht.1
 have b2:=bb _ _ hs.1 ht.2
 have b3:=bb _ _ hs.2 ht.1
 have b4:=bb _ _ hs.2 ht.2
 have eL:zq ((qG ExV.times s t).map ExV.can)=qU (qU (qU (s.lo.times t.lo).can (s.lo.times t.hi).can) (s.hi.times t.lo).can) (s.hi.times t.hi).can:=rfl
 have eM:zh ((qG ExV.times s t).map ExV.can)=zb (zb (zb (s.lo.times t.lo).can (s.lo.times t.hi).can) (s.hi.times t.lo).can) (s.hi.times t.hi).can:=rfl
 dsimp only
 rw[eL,eM]
 generalize (s.lo.times t.lo).can=p0 at*
 generalize (s.lo.times t.hi).can=p1 at*
 generalize (s.hi.times t.lo).can=p2 at*
 generalize (s.hi.times t.hi).can=p3 at*
 have lb:∀x y:ExV,x.bd (-400000) 400000→y.bd (-400000) 400000→(qU x y).bd (-400000) 400000:=fun x y h1 h2=>by rcases Zr x y with e|e<;>rw[e]<;>assumption
 have mb:∀x y:ExV,x.bd (-400000) 400000→y.bd (-400000) 400000→(zb x y).bd (-400000) 400000:=fun x y h1 h2=>by rcases Zo x y with e|e<;>rw[e]<;>assumption
 obtain⟨lL,hlL⟩:∃f:Nat→ExV,f=fun i=>if i=1 then p0 else if i=2 then qU p0 p1 else if i=3 then qU (qU p0 p1) p2 else qU (qU (qU p0 p1) p2) p3:=⟨_,rfl⟩
 obtain⟨lM,hlM⟩:∃f:Nat→ExV,f=fun i=>if i=1 then p0 else if i=2 then zb p0 p1 else if i=3 then zb (zb p0 p1) p2 else zb (zb (zb p0 p1) p2) p3:=⟨_,rfl⟩
 have hL1:lL 1=p0:=by rw[hlL];rfl
 have hM1:lM 1=p0:=by rw[hlM];rfl
 have hL4:lL 4=qU (qU (qU p0 p1) p2) p3:=by rw[hlL];rfl
 have hM4:lM 4=zb (zb (zb p0 p1) p2) p3:=by rw[hlM];rfl
 have hLs:∀i,1≤i→i<4→lL (i+1)=qU (lL i) (([p0,p1,p2,p3]:List ExV).getD i ex0):=fun i h1 h2=>by
  rcases(show i=1∨i=2∨i=3 by omega)with rfl|rfl|rfl<;>rw[hlL]<;>rfl
 have hMs:∀i,1≤i→i<4→lM (i+1)=zb (lM i) (([p0,p1,p2,p3]:List ExV).getD i ex0):=fun i h1 h2=>by
  rcases(show i=1∨i=2∨i=3 by omega)with rfl|rfl|rfl<;>rw[hlM]<;>rfl
 have hLb:∀i,1≤i→i≤4→(lL i).bd (-400000) 400000:=fun i h1 h2=>by
  rcases(show i=1∨i=2∨i=3∨i=4 by omega)with rfl|rfl|rfl|rfl<;>rw[hlL]
  ·exact b1
  ·exact lb _ _ b1 b2
  ·exact lb _ _ (lb _ _ b1 b2) b3
  ·exact lb _ _ (lb _ _ (lb _ _ b1 b2) b3) b4
 have hMb:∀i,1≤i→i≤4→(lM i).bd (-400000) 400000:=fun i h1 h2=>by
  rcases(show i=1∨i=2∨i=3∨i=4 by omega)with rfl|rfl|rfl|rfl<;>rw[hlM]
  ·exact b1
  ·exact mb _ _ b1 b2
  ·exact mb _ _ (mb _ _ b1 b2) b3
  ·exact mb _ _ (mb _ _ (mb _ _ b1 b2) b3) b4
 have hPb:∀x∈([p0,p1,p2,p3]:List ExV),x.bd (-400000) 400000:=fun x hx=>by
  simp only[List.mem_cons,List.not_mem_nil,or_false]at hx
  rcases hx with rfl|rfl|rfl|rfl<;>assumption
 have hrow:([.v (.bool p0.s),.sl (lim p0.m).length (qg (lim p0.m)),.v (.int .i64 p0.e),.v (.bool p1.s),.sl (lim p1.m).length (qg (lim p1.m)),.v (.int .i64 p1.e),.v (.bool p2.s),.sl (lim p2.m).length (qg (lim p2.m)),.v (.int .i64 p2.e),.v (.bool p3.s),.sl (lim p3.m).length (qg (lim p3.m)),.v (.int .i64 p3.e)]:List AV)=ql ExV.cs [p0,p1,p2,p3]:=rfl
 rw[←hL4,←hM4]
 clear hlL hlM hL4 hM4
 refine Con.of_w (rs:=[.cell 4 167]) Tryz.func211 rfl Tryz.ntmps211 rfl ?_
 simp(disch:=omega)only[go_sem]
 refine qv rfl [⟨0,[],[]⟩,⟨1,[],[]⟩,⟨2,[1],[]⟩,⟨3,[1],[]⟩,⟨5,[1,3],[]⟩,⟨6,[1,3],[]⟩,⟨7,[1,3,6],[]⟩,⟨8,[1,3,6],[]⟩,⟨10,[1,3,6,8],[]⟩,⟨11,[1,3,6,8],[]⟩,⟨12,[1,3,6,8,11],[]⟩,⟨13,[1,3,6,8,11],[]⟩,⟨15,[1,3,6,8,11,13],[]⟩,⟨16,[1,3,6,8,11,13],[]⟩,⟨17,[1,3,6,8,11,13,16],[]⟩,⟨18,[1,3,6,8,11,13,16],[]⟩,⟨4,[6,8,11,13,16,18],[]⟩,⟨9,[11,13,16,18],[]⟩,⟨14,[16,18],[]⟩,⟨19,[],[]⟩,⟨20,[],[]⟩,⟨21,[],[]⟩] (by kernel_rfl) ?_
 simp(disch:=omega)only[go_sem]
 refine qa (c1) ?_
 simp(disch:=omega)only[go_sem]
 refine qa (c2) ?_
 simp(disch:=omega)only[go_sem]
 refine qa (c3) ?_
 simp(disch:=omega)only[go_sem]
 refine qa (c4) ?_
 simp(disch:=omega)only[go_sem]
 refine qv rfl [⟨0,[],[]⟩,⟨1,[],[]⟩,⟨2,[],[]⟩,⟨3,[2],[]⟩,⟨4,[2],[]⟩,⟨5,[2],[]⟩,⟨6,[],[]⟩,⟨7,[2,5],[]⟩,⟨8,[],[]⟩] (by kernel_rfl) ?_
 simp(disch:=omega)only[go_sem]
 rw[hrow]
 refine qj (fun i:Nat=>[(4,.pt 4 0),(5,.rf 3 0 4),(6,.pt 5 0),(7,.v (.int .i64 i))])
  (fun i=>[(3,.own 3 (ql ExV.cs [p0,p1,p2,p3])),(4,.own 0 [.v (.bool false),.v (.slice none 0 0),.v (.int .i64 0),.v (.bool false),.v (.slice none 0 0),.v (.int .i64 0)]),(5,.own 0 [.v (.bool (lL i).s),.sl (lim (lL i).m).length (qg (lim (lL i).m)),.v (.int .i64 (lL i).e),.v (.bool (lM i).s),.sl (lim (lM i).m).length (qg (lim (lM i).m)),.v (.int .i64 (lM i).e)])]) (fun i=>1≤i∧i≤4) (fun i=>4-i) 1 (by omega)
  (Le.lst [(3,300000000),(4,60000000),(5,80000000)] _ _ rfl (by simp(disch:=omega)only[go_sem];try rfl) (by simp(disch:=omega)only[go_sem,hL1,hM1])) ?_
 rintro i ⟨hi1,hi2⟩
 simp(disch:=omega)only[go_sem]
 refine qi (fun h1=>?_) (fun h1=>?_)
 ·have hi3:i<4:=by omega
  have hg:=jy (l:=[p0,p1,p2,p3]) (i:=i) (by simpa using hi3)
  have bP:=hPb (([p0,p1,p2,p3]:List ExV).getD i ex0) (by rw[List.getD_eq_getElem?_getD,List.getElem?_eq_getElem (by simpa using hi3)];exact List.getElem_mem _)
  have q1:=ahN (lL i) (([p0,p1,p2,p3]:List ExV).getD i ex0) (hLb i hi1 hi2) bP
  have q2:=YG (lM i) (([p0,p1,p2,p3]:List ExV).getD i ex0) (hMb i hi1 hi2) bP
  rw[←hLs i hi1 hi3]at q1
  rw[←hMs i hi1 hi3]at q2
  generalize ([p0,p1,p2,p3]:List ExV).getD i ex0=x at*
  generalize hl1:lL (i+1)=a1 at*
  generalize hm1:lM (i+1)=a2 at*
  simp(disch:=omega)only[go_sem,h1]
  refine qv rfl [⟨0,[],[]⟩,⟨1,[],[]⟩,⟨2,[1],[]⟩,⟨3,[1],[]⟩,⟨4,[1],[]⟩,⟨5,[1],[]⟩,⟨6,[],[]⟩,⟨7,[],[]⟩,⟨8,[],[]⟩] (by kernel_rfl) ?_
  simp(disch:=omega)only[go_sem,hg]
  refine⟨by omega,by omega,?_⟩
  refine qa (q1) ?_
  simp(disch:=omega)only[go_sem]
  refine qv rfl [⟨0,[],[]⟩,⟨1,[],[]⟩,⟨2,[1],[]⟩,⟨3,[1],[]⟩,⟨4,[1],[]⟩,⟨5,[1],[]⟩,⟨6,[],[]⟩,⟨7,[],[]⟩,⟨8,[],[]⟩] (by kernel_rfl) ?_
  simp(disch:=omega)only[go_sem,hg]
  refine⟨by omega,by omega,?_⟩
  refine qa (q2) ?_
  simp(disch:=omega)only[go_sem]
  exact qe (i+1) [] (by omega) (by omega) rfl (by simp(disch:=omega)only[go_sem];try omega) (by simp(disch:=omega)only[go_sem,hl1,hm1])
 ·obtain rfl:i=4:=by omega
  simp(disch:=omega)only[go_sem,h1]
  exact qu
end Go.Ab
namespace Go.Ab
open Go Go.Proofs
theorem aiw{L:List SpV}{i:Nat}(hi:i<L.length):cut (ql SpV.cs L) (i*6) 3=[.v (.bool (L.getD i sp0).lo.s),.sl (lim (L.getD i sp0).lo.m).length (qg (lim (L.getD i sp0).lo.m)),.v (.int .i64 (L.getD i sp0).lo.e)]:=by
 have h:=zX hi
 have:cut (ql SpV.cs L) (i*6) 3=(cut (ql SpV.cs L) (i*6) 6).take 3:=by
  unfold cut
  rw[List.take_take];rfl
 rw[this,h];rfl
def zpT(F:SpV→SpV→SpV)(l l':List SpV)(i:Nat):List SpV:=(List.range i).map fun i=>F (l.getD i sp0) (l'.getD i sp0)
theorem apk{F:SpV→SpV→SpV}{l l':List SpV}{i:Nat}:(zpT F l l' i).length=i:=by simp[zpT]
theorem ax0{F:SpV→SpV→SpV}{l l':List SpV}{i:Nat}:zpT F l l' (i+1)=zpT F l l' i++[F (l.getD i sp0) (l'.getD i sp0)]:=by simp[zpT,List.range_succ]
theorem Vf{x y:ExV}{low md:Int}(hy0:y.m≠0):(x.can.over y.can low md).can=(x.over y low md).can:=by
 by_cases h0:x.m=0
 ·rw[Yg h0,Yg (show x.can.m=0 by show oM x.m=0;rw[h0,jv])]
 have ex:x.can.e=x.e+tz x.m:=by show oE x.m x.e=_;unfold oE;rw[if_neg h0]
 have mx:x.can.m*2^tz x.m=x.m:=Jh
 have sx:x.can.s=x.s:=by show oS x.s x.m=x.s;unfold oS;rw[if_neg h0]
 have ey:y.can.e=y.e+tz y.m:=by show oE y.m y.e=_;unfold oE;rw[if_neg hy0]
 have my:y.can.m*2^tz y.m=y.m:=Jh
 have sy:y.can.s=y.s:=by show oS y.s y.m=y.s;unfold oS;rw[if_neg hy0]
 have hq:ovQ (x.s != y.s) x.can.m x.can.e y.can.m y.can.e low md=ovQ (x.s != y.s) x.m x.e y.m y.e low md:=by
  unfold ovQ ovA
  obtain⟨k,hk⟩:∃k,k=x.e-y.e-low:=⟨_,rfl⟩
  obtain⟨k',hk'⟩:∃k',k'=x.can.e-y.can.e-low:=⟨_,rfl⟩
  rw[←hk,←hk']
  refine(aNa (i:=tz x.m+k.toNat) (i':=k'.toNat) ?_ ?_).1
  ·rw[←mx]
   rw[mx]
   conv=>rhs;rw[←mx]
   rw[Nat.mul_assoc,Nat.mul_assoc,Nat.mul_assoc,←Nat.pow_add,←Nat.pow_add,←Nat.pow_add]
   congr 2
   omega
  ·conv=>rhs;rw[←my]
   rw[Nat.mul_assoc,Nat.mul_assoc,Nat.mul_assoc,←Nat.pow_add,←Nat.pow_add,←Nat.pow_add]
   congr 2
   omega
 unfold ExV.over
 rw[sx,sy,hq]
set_option maxRecDepth 100000 in
theorem ahM(n:Nat)(l:List ExV)(y:ExV)(hn:n≤4)(hl:l.length=n*n)(hb:gbd (-100000) 100000 l)(hy:y.bd (-100000) 100000):Con Tryz.prog 102 false [.ag [.v (.int .i64 (n)),.sl (l).length (ql ExV.cs (l))],.ag [.v (.bool (y).s),.sl (lim (y).m).length (qg (lim (y).m)),.v (.int .i64 (y).e)]] [] (isA (.ag [.v (.int .i64 n),.sl (l.map (fun x=>(x.times y).can)).length (ql ExV.cs (l.map (fun x=>(x.times y).can)))])):=by
 refine Con.frzA ?_
 have hq:=jU hn
 have hpost:l.map (fun x=>(x.times y).can)=mpT l (fun x=>(x.times y).can) (n*n):=by rw[←hl];exact yh.symm
 rw[hpost]
 refine Con.of_aw Tryz.func102 rfl Tryz.ntmps102 (by simp) (by simp) (by simp) (W.sound ?_)
 show @W Tryz.prog 29 ⟨_⟩ ⟨fun x σ=>@zl _ _ _ ⟨_⟩ _ ⟨_⟩ x σ⟩ _ _
 simp(disch:=omega)only[go_sem]
 refine qF (adg n hn) (by simp(disch:=omega)only[go_sem]) ?_
 rintro r hs ⟨rfl,rfl⟩
 refine⟨by simp[qL];simp(disch:=omega)only[go_sem],?_⟩
 simp(disch:=omega)only[go_sem]
 refine qj (fun i:Nat=>[(2,.pt 2 0),(3,.pt 3 0),(4,.pt 4 0),(5,.pt 5 0),(6,.v (.int .i64 i))])
  (fun i=>[(1,.own 3 (ql ExV.cs (mpT l (fun x=>(x.times y).can) i)++zG (n*n-i) z3)),(2,.own 0 [.v (.int .i64 n),.sl l.length (ql ExV.cs l)]),(3,.own 0 [.v (.bool y.s),.sl (lim y.m).length (qg (lim y.m)),.v (.int .i64 y.e)]),(4,.own 0 [.v (.int .i64 0),.v (.slice none 0 0)]),(5,.own 0 [.v (.int .i64 n),.rf 1 0 (n*n)])]) (fun i=>i≤n*n) (fun i=>n*n-i) 0 (by omega)
  (Le.lst [(1,110000000),(2,40000000),(3,50000000),(4,60000000),(5,70000000)] _ _ rfl (by simp(disch:=omega)only[go_sem]) (by simp(disch:=omega)only[go_sem,Nat.sub_zero,show mpT l (fun x=>(x.times y).can) 0=[] from rfl,aho,List.nil_append])) ?_
 intro i hi
 simp(disch:=omega)only[go_sem]
 refine qi (fun h1=>?_) (fun h1=>?_)
 ·have hi2:i<n*n:=by omega
  obtain⟨k0,hk0⟩:∃k0,n*n-i=k0+1:=⟨n*n-i-1,by omega⟩
  have hk1:n*n-(i+1)=k0:=by omega
  have hAl:(mpT l (fun x=>(x.times y).can) i).length=i:=zK (by omega)
  have hs:=jF (F:=fun x=>(x.times y).can) ex0 (l:=l) (i:=i) (by omega)
  have hc:=jy (l:=l) (i:=i) (by omega)
  have hx:=hb (l.getD i ex0) (by rw[List.getD_eq_getElem?_getD,List.getElem?_eq_getElem (by omega)];exact List.getElem_mem _)
  generalize l.getD i ex0=x at*
  have c1:=yI x y (hx.mono (by omega) (by omega)) (hy.mono (by omega) (by omega))
  generalize (x.times y).can=w at*
  rw[hk0]
  generalize mpT l (fun x=>(x.times y).can) i=A at*
  obtain rfl:A.length=i:=hAl
  simp(disch:=omega)only[go_sem,h1]
  refine qv rfl [⟨0,[],[]⟩,⟨1,[],[]⟩,⟨2,[1],[]⟩,⟨3,[1],[]⟩,⟨4,[1],[]⟩,⟨5,[1,4],[]⟩,⟨6,[1],[]⟩,⟨7,[1],[]⟩,⟨8,[1,4,7],[]⟩,⟨9,[1],[]⟩,⟨10,[],[]⟩,⟨11,[],[]⟩] (by kernel_rfl) ?_
  simp(disch:=omega)only[go_sem,hc]
  refine⟨by omega,by omega,?_⟩
  refine qa (c1) ?_
  simp(disch:=omega)only[go_sem]
  rw[aKW]
  exact⟨by omega,by rw[List.length_append,ahp,apm];omega,qe (A.length+1) [] (by show A.length+1≤n*n;omega) (by show n*n-(A.length+1)<k0+1;omega) rfl (by simp(disch:=omega)only[go_sem];try omega) (by simp(disch:=omega)only[go_sem,hk1,hs])⟩
 ·simp(disch:=omega)only[go_sem,h1]
  obtain rfl:i=n*n:=by omega
  have hll:(mpT l (fun x=>(x.times y).can) (n*n)).length=n*n:=zK (by omega)
  rw[hll]
  refine qm [(0,1)] [.own 3 (ql ExV.cs (mpT l (fun x=>(x.times y).can) (n*n)))] [] [.ag [.v (.int .i64 n),.rf 0 0 (n*n)]] rfl (by simp(disch:=omega)only[go_sem]) (by simp(disch:=omega)only[go_sem,Nat.sub_self,Q8,List.append_nil]) (by simp) (by simp) ?_
  show qK _ 6 _=_
  simp(disch:=omega)only[go_sem,qY,jX hll]
set_option maxRecDepth 100000 in
theorem aoL(n:Nat)(l:List SpV)(y:ExV)(hn:n≤4)(hl:l.length=n*n)(hb:sbd (-400000) 400000 l)(hy:y.bd (-400000) 400000):Con Tryz.prog 138 false [.ag [.v (.int .i64 (n)),.sl (l).length (ql SpV.cs (l))],.ag [.v (.bool (y).s),.sl (lim (y).m).length (qg (lim (y).m)),.v (.int .i64 (y).e)]] [] (isA (.ag [.v (.int .i64 n),.sl (l.map (fun s=>(s.fat y).can)).length (ql SpV.cs (l.map (fun s=>(s.fat y).can)))])):=by
 refine Con.frzA ?_
 have hq:=jU hn
 have hpost:l.map (fun s=>(s.fat y).can)=mpT l (fun s=>(s.fat y).can) (n*n):=by rw[←hl];exact yh.symm
 rw[hpost]
 refine Con.of_aw Tryz.func138 rfl Tryz.ntmps138 (by simp) (by simp) (by simp) (W.sound ?_)
 show @W Tryz.prog 40 ⟨_⟩ ⟨fun x σ=>@zl _ _ _ ⟨_⟩ _ ⟨_⟩ x σ⟩ _ _
 simp(disch:=omega)only[go_sem]
 refine qF (jB n hn) (by simp(disch:=omega)only[go_sem]) ?_
 rintro r hs ⟨rfl,rfl⟩
 refine⟨by simp[qL];simp(disch:=omega)only[go_sem],?_⟩
 simp(disch:=omega)only[go_sem]
 refine qj (fun i:Nat=>[(2,.pt 2 0),(3,.pt 3 0),(4,.pt 4 0),(5,.pt 5 0),(6,.v (.int .i64 i))])
  (fun i=>[(1,.own 6 (ql SpV.cs (mpT l (fun s=>(s.fat y).can) i)++zG (n*n-i) z6)),(2,.own 0 [.v (.int .i64 n),.sl l.length (ql SpV.cs l)]),(3,.own 0 [.v (.bool y.s),.sl (lim y.m).length (qg (lim y.m)),.v (.int .i64 y.e)]),(4,.own 0 [.v (.int .i64 0),.v (.slice none 0 0)]),(5,.own 0 [.v (.int .i64 n),.rf 1 0 (n*n)])]) (fun i=>i≤n*n) (fun i=>n*n-i) 0 (by omega)
  (Le.lst [(1,110000000),(2,40000000),(3,50000000),(4,60000000),(5,70000000)] _ _ rfl (by simp(disch:=omega)only[go_sem]) (by simp(disch:=omega)only[go_sem,Nat.sub_zero,show mpT l (fun s=>(s.fat y).can) 0=[] from rfl,yb,List.nil_append])) ?_
 intro i hi
 simp(disch:=omega)only[go_sem]
 refine qi (fun h1=>?_) (fun h1=>?_)
 ·have hi2:i<n*n:=by omega
  obtain⟨k0,hk0⟩:∃k0,n*n-i=k0+1:=⟨n*n-i-1,by omega⟩
  have hk1:n*n-(i+1)=k0:=by omega
  have hAl:(mpT l (fun s=>(s.fat y).can) i).length=i:=zK (by omega)
  have hs:=jF (F:=fun s=>(s.fat y).can) sp0 (l:=l) (i:=i) (by omega)
  have hc:=zX (l:=l) (i:=i) (by omega)
  have hcl:=aiw (L:=l) (i:=i) (by omega)
  have hch:=aix (L:=l) (i:=i) (by omega)
  have hx:=hb (l.getD i sp0) (by rw[List.getD_eq_getElem?_getD,List.getElem?_eq_getElem (by omega)];exact List.getElem_mem _)
  generalize l.getD i sp0=x at*
  have c0:=aoJ y hy
  have c1:=yJ x.lo y.neg hx.1 (ExV.neg_bd hy)
  have c2:=yJ x.hi y hx.2 hy
  have ew:(x.fat y).can=⟨(x.lo.plus y.neg).can,(x.hi.plus y).can⟩:=rfl
  rw[ew]at hs
  generalize (x.lo.plus y.neg).can=w1 at*
  generalize (x.hi.plus y).can=w2 at*
  generalize y.neg=yn at*
  have hfill:=fun(L:List SpV) (k:Nat)=>yN (L:=L) (k:=k) (x:=⟨w1,w2⟩)
  dsimp only at hfill
  rw[hk0]
  generalize mpT l (fun s=>(s.fat y).can) i=A at*
  obtain rfl:A.length=i:=hAl
  simp(disch:=omega)only[go_sem,h1]
  refine qv rfl [⟨0,[],[]⟩,⟨1,[],[]⟩,⟨2,[1],[]⟩,⟨3,[1],[]⟩,⟨4,[1],[]⟩,⟨5,[1,4],[]⟩,⟨6,[1],[]⟩,⟨7,[1],[]⟩,⟨8,[1],[]⟩,⟨9,[1,4,8],[]⟩,⟨12,[1,4,8,9],[]⟩,⟨13,[1,4,8,9],[]⟩,⟨14,[1,4,8,9,13],[]⟩,⟨15,[1,4,8,9],[]⟩,⟨16,[1,4,8,9],[]⟩,⟨17,[1,4,8,9],[]⟩,⟨18,[1,4,8,9,13,17],[]⟩,⟨10,[1,4,8,13,17,18],[]⟩,⟨11,[1,13,17,18],[]⟩,⟨19,[1],[]⟩,⟨20,[1],[]⟩,⟨21,[],[]⟩,⟨22,[],[]⟩] (by kernel_rfl) ?_
  simp(disch:=omega)only[go_sem,hcl,hch]
  refine⟨by omega,by omega,by omega,by omega,?_⟩
  refine qa (c0) ?_
  simp(disch:=omega)only[go_sem]
  refine qa (c1) ?_
  simp(disch:=omega)only[go_sem]
  refine qa (c2) ?_
  simp(disch:=omega)only[go_sem]
  rw[hfill]
  exact⟨by omega,by rw[List.length_append,yc,Jc];omega,qe (A.length+1) [] (by show A.length+1≤n*n;omega) (by show n*n-(A.length+1)<k0+1;omega) rfl (by simp(disch:=omega)only[go_sem];try omega) (by simp(disch:=omega)only[go_sem,hk1,hs])⟩
 ·simp(disch:=omega)only[go_sem,h1]
  obtain rfl:i=n*n:=by omega
  have hll:(mpT l (fun s=>(s.fat y).can) (n*n)).length=n*n:=zK (by omega)
  rw[hll]
  refine qm [(0,1)] [.own 6 (ql SpV.cs (mpT l (fun s=>(s.fat y).can) (n*n)))] [] [.ag [.v (.int .i64 n),.rf 0 0 (n*n)]] rfl (by simp(disch:=omega)only[go_sem]) (by simp(disch:=omega)only[go_sem,Nat.sub_self,Q8,List.append_nil]) (by simp) (by simp) ?_
  show qK _ 6 _=_
  simp(disch:=omega)only[go_sem,qY,zM hll]
set_option maxRecDepth 100000 in
theorem XP(n:Nat)(l:List SpV)(low:Int)(hn:n≤4)(hl:l.length=n*n)(hcn:∀s∈l,s.lo.can=s.lo∧s.hi.can=s.hi)(hb:sbd (-400000) 400000 l)(hlo: -400000≤low∧low≤400000):Con Tryz.prog 63 false [.ag [.v (.int .i64 (n)),.sl (l).length (ql SpV.cs (l))],.v (.int .i64 low)] [] (isA (.ag [.v (.int .i64 n),.sl (l.map (fun s=>(s.out low).can)).length (ql SpV.cs (l.map (fun s=>(s.out low).can)))])):=by
 refine Con.frzA ?_
 have hq:=jU hn
 have hpost:l.map (fun s=>(s.out low).can)=mpT l (fun s=>(s.out low).can) (n*n):=by rw[←hl];exact yh.symm
 rw[hpost]
 refine Con.of_aw Tryz.func63 rfl Tryz.ntmps63 (by simp) (by simp) (by simp) (W.sound ?_)
 show @W Tryz.prog 29 ⟨_⟩ ⟨fun x σ=>@zl _ _ _ ⟨_⟩ _ ⟨_⟩ x σ⟩ _ _
 simp(disch:=omega)only[go_sem]
 refine qF (jB n hn) (by simp(disch:=omega)only[go_sem]) ?_
 rintro r hs ⟨rfl,rfl⟩
 refine⟨by simp[qL];simp(disch:=omega)only[go_sem],?_⟩
 simp(disch:=omega)only[go_sem]
 refine qj (fun i:Nat=>[(2,.pt 2 0),(1,.v (.int .i64 low)),(4,.pt 3 0),(5,.pt 4 0),(6,.v (.int .i64 i))])
  (fun i=>[(1,.own 6 (ql SpV.cs (mpT l (fun s=>(s.out low).can) i)++zG (n*n-i) z6)),(2,.own 0 [.v (.int .i64 n),.sl l.length (ql SpV.cs l)]),(3,.own 0 [.v (.int .i64 0),.v (.slice none 0 0)]),(4,.own 0 [.v (.int .i64 n),.rf 1 0 (n*n)])]) (fun i=>i≤n*n) (fun i=>n*n-i) 0 (by omega)
  (Le.lst [(1,110000000),(2,40000000),(3,60000000),(4,70000000)] _ _ rfl (by simp(disch:=omega)only[go_sem]) (by simp(disch:=omega)only[go_sem,Nat.sub_zero,show mpT l (fun s=>(s.out low).can) 0=[] from rfl,yb,List.nil_append])) ?_
 intro i hi
 simp(disch:=omega)only[go_sem]
 refine qi (fun h1=>?_) (fun h1=>?_)
 ·have hi2:i<n*n:=by omega
  obtain⟨k0,hk0⟩:∃k0,n*n-i=k0+1:=⟨n*n-i-1,by omega⟩
  have hk1:n*n-(i+1)=k0:=by omega
  have hAl:(mpT l (fun s=>(s.out low).can) i).length=i:=zK (by omega)
  have hs:=jF (F:=fun s=>(s.out low).can) sp0 (l:=l) (i:=i) (by omega)
  have hc:=zX (l:=l) (i:=i) (by omega)
  have hcl:=aiw (L:=l) (i:=i) (by omega)
  have hch:=aix (L:=l) (i:=i) (by omega)
  have hx:=hb (l.getD i sp0) (by rw[List.getD_eq_getElem?_getD,List.getElem?_eq_getElem (by omega)];exact List.getElem_mem _)
  have hcan:=hcn (l.getD i sp0) (by rw[List.getD_eq_getElem?_getD,List.getElem?_eq_getElem (by omega)];exact List.getElem_mem _)
  generalize l.getD i sp0=x at*
  have c1:=aoG x low hcan.1 hcan.2 hx hlo
  generalize (x.out low).can=w at*
  rw[hk0]
  generalize mpT l (fun s=>(s.out low).can) i=A at*
  obtain rfl:A.length=i:=hAl
  simp(disch:=omega)only[go_sem,h1]
  refine qv rfl [⟨0,[],[]⟩,⟨1,[],[]⟩,⟨2,[1],[]⟩,⟨3,[1],[]⟩,⟨4,[1],[]⟩,⟨5,[1,4],[]⟩,⟨6,[1],[]⟩,⟨7,[1],[]⟩,⟨8,[1,4,7],[]⟩,⟨9,[1],[]⟩,⟨10,[],[]⟩,⟨11,[],[]⟩] (by kernel_rfl) ?_
  simp(disch:=omega)only[go_sem,hc]
  refine⟨by omega,by omega,?_⟩
  refine qa (c1) ?_
  simp(disch:=omega)only[go_sem]
  rw[yN]
  exact⟨by omega,by rw[List.length_append,yc,Jc];omega,qe (A.length+1) [] (by show A.length+1≤n*n;omega) (by show n*n-(A.length+1)<k0+1;omega) rfl (by simp(disch:=omega)only[go_sem];try omega) (by simp(disch:=omega)only[go_sem,hk1,hs])⟩
 ·simp(disch:=omega)only[go_sem,h1]
  obtain rfl:i=n*n:=by omega
  have hll:(mpT l (fun s=>(s.out low).can) (n*n)).length=n*n:=zK (by omega)
  rw[hll]
  refine qm [(0,1)] [.own 6 (ql SpV.cs (mpT l (fun s=>(s.out low).can) (n*n)))] [] [.ag [.v (.int .i64 n),.rf 0 0 (n*n)]] rfl (by simp(disch:=omega)only[go_sem]) (by simp(disch:=omega)only[go_sem,Nat.sub_self,Q8,List.append_nil]) (by simp) (by simp) ?_
  show qK _ 6 _=_
  simp(disch:=omega)only[go_sem,qY,zM hll]
set_option maxRecDepth 100000 in
theorem aoM(n:Nat)(l:List SpV)(k:Nat)(low:Int)(hn:n≤4)(hl:l.length=n*n)(hk:k≠0)(hk2:k<2^40)(hcn:∀s∈l,s.lo.can=s.lo∧s.hi.can=s.hi)(hb:sbd (-90000) 10000 l)(hlo: -10000≤low∧low≤10000):Con Tryz.prog 135 false [.ag [.v (.int .i64 (n)),.sl (l).length (ql SpV.cs (l))],.v (.int .i64 k),.v (.int .i64 low)] [] (isA (.ag [.v (.int .i64 n),.sl (l.map (fun s=>SpV.mk (s.lo.over (exN k) low 3).can (s.hi.over (exN k) low 2).can)).length (ql SpV.cs (l.map (fun s=>SpV.mk (s.lo.over (exN k) low 3).can (s.hi.over (exN k) low 2).can)))])):=by
 refine Con.frzA ?_
 have hq:=jU hn
 have c3:=VS (k:Int) (by omega)
 rw[show decide ((k:Int)<0)=false from decide_eq_false (by omega),Int.natAbs_natCast]at c3
 have hkb:bl k≤40:=q9.2 hk2
 have c4:=jA false k 0 (by omega) (by omega)
 obtain⟨d,hd⟩:∃d:ExV,d=(exN k).can:=⟨_,rfl⟩
 have hd0:d.m≠0:=by
  rw[hd]
  show oM k≠0
  intro e;exact hk (yz.1 e)
 have hdb:d.bd (-10000) 10000:=by
  rw[hd]
  refine QE ⟨fun h=>rfl,by show(-10000:Int)≤0;omega,by show(bl k:Int)+0≤10000;omega⟩ (by omega) (by omega)
 have hdo:∀(x:ExV) (md:Int),(x.can.over d low md).can=(x.over (exN k) low md).can:=fun x md=>by rw[hd];exact Vf hk
 change Con _ _ _ _ _ (isA (.ag [.v (.bool ((exN k).can).s),.sl (lim ((exN k).can).m).length (qg (lim ((exN k).can).m)),.v (.int .i64 ((exN k).can).e)]))at c4
 rw[←hd]at c4
 clear hd
 have hpost:l.map (fun s=>SpV.mk (s.lo.over (exN k) low 3).can (s.hi.over (exN k) low 2).can)=mpT l (fun s=>SpV.mk (s.lo.over (exN k) low 3).can (s.hi.over (exN k) low 2).can) (n*n):=by rw[←hl];exact yh.symm
 rw[hpost]
 refine Con.of_aw Tryz.func135 rfl Tryz.ntmps135 (by simp) (by simp) (by simp) (W.sound ?_)
 show @W Tryz.prog 47 ⟨_⟩ ⟨fun x σ=>@zl _ _ _ ⟨_⟩ _ ⟨_⟩ x σ⟩ _ _
 simp(disch:=omega)only[go_sem]
 refine qa (c3) ?_
 simp(disch:=omega)only[go_sem]
 refine qa (c4) ?_
 simp(disch:=omega)only[go_sem]
 refine qF (jB n hn) (by simp(disch:=omega)only[go_sem]) ?_
 rintro r hs ⟨rfl,rfl⟩
 refine⟨by simp[qL];simp(disch:=omega)only[go_sem],?_⟩
 simp(disch:=omega)only[go_sem]
 refine qj (fun i:Nat=>[(3,.pt 2 0),(2,.v (.int .i64 low)),(7,.pt 3 0),(6,.pt 4 0),(8,.pt 5 0),(9,.v (.int .i64 i))])
  (fun i=>[(1,.own 6 (ql SpV.cs (mpT l (fun s=>SpV.mk (s.lo.over (exN k) low 3).can (s.hi.over (exN k) low 2).can) i)++zG (n*n-i) z6)),(2,.own 0 [.v (.int .i64 n),.sl l.length (ql SpV.cs l)]),(3,.own 0 [.v (.bool d.s),.sl (lim d.m).length (qg (lim d.m)),.v (.int .i64 d.e)]),(4,.own 0 [.v (.int .i64 0),.v (.slice none 0 0)]),(5,.own 0 [.v (.int .i64 n),.rf 1 0 (n*n)])]) (fun i=>i≤n*n) (fun i=>n*n-i) 0 (by omega)
  (Le.lst [(1,170000000),(2,50000000),(3,90000000),(4,80000000),(5,100000000)] _ _ rfl (by simp(disch:=omega)only[go_sem]) (by simp(disch:=omega)only[go_sem,Nat.sub_zero,show mpT l (fun s=>SpV.mk (s.lo.over (exN k) low 3).can (s.hi.over (exN k) low 2).can) 0=[] from rfl,yb,List.nil_append])) ?_
 intro i hi
 simp(disch:=omega)only[go_sem]
 refine qi (fun h1=>?_) (fun h1=>?_)
 ·have hi2:i<n*n:=by omega
  obtain⟨k0,hk0⟩:∃k0,n*n-i=k0+1:=⟨n*n-i-1,by omega⟩
  have hk1:n*n-(i+1)=k0:=by omega
  have hAl:(mpT l (fun s=>SpV.mk (s.lo.over (exN k) low 3).can (s.hi.over (exN k) low 2).can) i).length=i:=zK (by omega)
  have hs:=jF (F:=fun s=>SpV.mk (s.lo.over (exN k) low 3).can (s.hi.over (exN k) low 2).can) sp0 (l:=l) (i:=i) (by omega)
  have hc:=zX (l:=l) (i:=i) (by omega)
  have hcl:=aiw (L:=l) (i:=i) (by omega)
  have hch:=aix (L:=l) (i:=i) (by omega)
  have hx:=hb (l.getD i sp0) (by rw[List.getD_eq_getElem?_getD,List.getElem?_eq_getElem (by omega)];exact List.getElem_mem _)
  have hcan:=hcn (l.getD i sp0) (by rw[List.getD_eq_getElem?_getD,List.getElem?_eq_getElem (by omega)];exact List.getElem_mem _)
  generalize l.getD i sp0=x at*
  have c1:=XK x.lo d low 3 hcan.1 hd0 (by omega) hx.1 hdb hlo
  have c2:=XK x.hi d low 2 hcan.2 hd0 (by omega) hx.2 hdb hlo
  have q1:=hdo x.lo 3
  have q2:=hdo x.hi 2
  rw[hcan.1]at q1
  rw[hcan.2]at q2
  rw[q1]at c1
  rw[q2]at c2
  generalize (x.lo.over (exN k) low 3).can=w1 at*
  generalize (x.hi.over (exN k) low 2).can=w2 at*
  have hfill:=fun(L:List SpV) (k:Nat)=>yN (L:=L) (k:=k) (x:=⟨w1,w2⟩)
  dsimp only at hfill
  rw[hk0]
  generalize mpT l (fun s=>SpV.mk (s.lo.over (exN k) low 3).can (s.hi.over (exN k) low 2).can) i=A at*
  obtain rfl:A.length=i:=hAl
  simp(disch:=omega)only[go_sem,h1]
  refine qv rfl [⟨0,[],[]⟩,⟨1,[],[]⟩,⟨2,[1],[]⟩,⟨3,[1],[]⟩,⟨4,[1],[]⟩,⟨5,[1,4],[]⟩,⟨6,[1],[]⟩,⟨7,[1],[]⟩,⟨8,[1],[]⟩,⟨9,[1,4,8],[]⟩,⟨10,[1,4,8,9],[]⟩,⟨12,[1,4,8,9],[]⟩,⟨13,[1,4,8,9],[]⟩,⟨14,[1,4,8,9,13],[]⟩,⟨15,[1,4,8,9],[]⟩,⟨16,[1,4,8,9],[]⟩,⟨17,[1,4,8,9],[]⟩,⟨18,[1,4,8,9,13,17],[]⟩,⟨19,[1,4,8,9,13,17,18],[]⟩,⟨11,[1,13,17,18],[]⟩,⟨20,[1],[]⟩,⟨21,[1],[]⟩,⟨22,[],[]⟩,⟨23,[],[]⟩] (by kernel_rfl) ?_
  simp(disch:=omega)only[go_sem,hcl,hch]
  refine⟨by omega,by omega,by omega,by omega,?_⟩
  refine qa (c1) ?_
  simp(disch:=omega)only[go_sem]
  refine qa (c2) ?_
  simp(disch:=omega)only[go_sem]
  rw[hfill]
  exact⟨by omega,by rw[List.length_append,yc,Jc];omega,qe (A.length+1) [] (by show A.length+1≤n*n;omega) (by show n*n-(A.length+1)<k0+1;omega) rfl (by simp(disch:=omega)only[go_sem];try omega) (by simp(disch:=omega)only[go_sem,hk1,hs])⟩
 ·simp(disch:=omega)only[go_sem,h1]
  obtain rfl:i=n*n:=by omega
  have hll:(mpT l (fun s=>SpV.mk (s.lo.over (exN k) low 3).can (s.hi.over (exN k) low 2).can) (n*n)).length=n*n:=zK (by omega)
  rw[hll]
  refine qm [(0,1)] [.own 6 (ql SpV.cs (mpT l (fun s=>SpV.mk (s.lo.over (exN k) low 3).can (s.hi.over (exN k) low 2).can) (n*n)))] [] [.ag [.v (.int .i64 n),.rf 0 0 (n*n)]] rfl (by simp(disch:=omega)only[go_sem]) (by simp(disch:=omega)only[go_sem,Nat.sub_self,Q8,List.append_nil]) (by simp) (by simp) ?_
  show qK _ 6 _=_
  simp(disch:=omega)only[go_sem,qY,zM hll]
set_option maxRecDepth 100000 in
theorem aoN(n:Nat)(l l':List SpV)(hn:n≤4)(hl:l.length=n*n)(hl':l'.length=n*n)(hb:sbd (-400000) 400000 l)(hb':sbd (-400000) 400000 l'):Con Tryz.prog 137 false [.ag [.v (.int .i64 (n)),.sl (l).length (ql SpV.cs (l))],.ag [.v (.int .i64 (n)),.sl (l').length (ql SpV.cs (l'))]] [] (isA (.ag [.v (.int .i64 n),.sl (zpT (fun s t=>(s.plus t).can) l l' (n*n)).length (ql SpV.cs (zpT (fun s t=>(s.plus t).can) l l' (n*n)))])):=by
 refine Con.frzA ?_
 have hq:=jU hn
 refine Con.of_aw Tryz.func137 rfl Tryz.ntmps137 (by simp) (by simp) (by simp) (W.sound ?_)
 show @W Tryz.prog 33 ⟨_⟩ ⟨fun x σ=>@zl _ _ _ ⟨_⟩ _ ⟨_⟩ x σ⟩ _ _
 simp(disch:=omega)only[go_sem]
 refine qF (jB n hn) (by simp(disch:=omega)only[go_sem]) ?_
 rintro r hs ⟨rfl,rfl⟩
 refine⟨by simp[qL];simp(disch:=omega)only[go_sem],?_⟩
 simp(disch:=omega)only[go_sem]
 refine qj (fun i:Nat=>[(2,.pt 2 0),(3,.pt 3 0),(4,.pt 4 0),(5,.pt 5 0),(6,.v (.int .i64 i))])
  (fun i=>[(1,.own 6 (ql SpV.cs (zpT (fun s t=>(s.plus t).can) l l' i)++zG (n*n-i) z6)),(2,.own 0 [.v (.int .i64 n),.sl l.length (ql SpV.cs l)]),(3,.own 0 [.v (.int .i64 n),.sl l'.length (ql SpV.cs l')]),(4,.own 0 [.v (.int .i64 0),.v (.slice none 0 0)]),(5,.own 0 [.v (.int .i64 n),.rf 1 0 (n*n)])]) (fun i=>i≤n*n) (fun i=>n*n-i) 0 (by omega)
  (Le.lst [(1,110000000),(2,40000000),(3,50000000),(4,60000000),(5,70000000)] _ _ rfl (by simp(disch:=omega)only[go_sem]) (by simp(disch:=omega)only[go_sem,Nat.sub_zero,show zpT (fun s t=>(s.plus t).can) l l' 0=[] from rfl,yb,List.nil_append])) ?_
 intro i hi
 simp(disch:=omega)only[go_sem]
 refine qi (fun h1=>?_) (fun h1=>?_)
 ·have hi2:i<n*n:=by omega
  obtain⟨k0,hk0⟩:∃k0,n*n-i=k0+1:=⟨n*n-i-1,by omega⟩
  have hk1:n*n-(i+1)=k0:=by omega
  have hAl:(zpT (fun s t=>(s.plus t).can) l l' i).length=i:=apk
  have hs:=ax0 (F:=fun s t=>(s.plus t).can) (l:=l) (l':=l') (i:=i)
  have hc:=zX (l:=l) (i:=i) (by omega)
  have hc2:=zX (l:=l') (i:=i) (by omega)
  have c1:=XJ (l.getD i sp0) (l'.getD i sp0) (zY hb (by omega)) (zY hb' (by omega))
  generalize l.getD i sp0=x at*
  generalize l'.getD i sp0=y at*
  generalize (x.plus y).can=w at*
  rw[hk0]
  generalize zpT (fun s t=>(s.plus t).can) l l' i=A at*
  obtain rfl:A.length=i:=hAl
  simp(disch:=omega)only[go_sem,h1]
  refine qv rfl [⟨0,[],[]⟩,⟨1,[],[]⟩,⟨2,[1],[]⟩,⟨3,[1],[]⟩,⟨4,[1],[]⟩,⟨5,[1,4],[]⟩,⟨6,[1],[]⟩,⟨7,[1],[]⟩,⟨8,[1,4,7],[]⟩,⟨9,[1,4,7],[]⟩,⟨10,[1,4,7,9],[]⟩,⟨11,[1,4,7],[]⟩,⟨12,[1,4,7],[]⟩,⟨13,[1],[]⟩,⟨14,[],[]⟩,⟨15,[],[]⟩] (by kernel_rfl) ?_
  simp(disch:=omega)only[go_sem,hc,hc2]
  refine⟨by omega,by omega,by omega,by omega,?_⟩
  refine qa (c1) ?_
  simp(disch:=omega)only[go_sem]
  rw[yN]
  exact⟨by omega,by rw[List.length_append,yc,Jc];omega,qe (A.length+1) [] (by show A.length+1≤n*n;omega) (by show n*n-(A.length+1)<k0+1;omega) rfl (by simp(disch:=omega)only[go_sem];try omega) (by simp(disch:=omega)only[go_sem,hk1,hs])⟩
 ·simp(disch:=omega)only[go_sem,h1]
  obtain rfl:i=n*n:=by omega
  have hll:(zpT (fun s t=>(s.plus t).can) l l' (n*n)).length=n*n:=apk
  rw[hll]
  refine qm [(0,1)] [.own 6 (ql SpV.cs (zpT (fun s t=>(s.plus t).can) l l' (n*n)))] [] [.ag [.v (.int .i64 n),.rf 0 0 (n*n)]] rfl (by simp(disch:=omega)only[go_sem]) (by simp(disch:=omega)only[go_sem,Nat.sub_self,Q8,List.append_nil]) (by simp) (by simp) ?_
  show qK _ 6 _=_
  simp(disch:=omega)only[go_sem,qY,zM hll]
set_option maxRecDepth 100000 in
theorem ahT(n:Nat)(l:List SpV)(h:imatV n l):Con Tryz.prog 62 false [.ag [.v (.int .i64 (n)),.sl (l).length (ql SpV.cs (l))]] [] (isA (.tu [.ag [.v (.int .i64 n),.sl (l.map (fun s=>s)).length (ql SpV.cs (l.map (fun s=>s)))],.v (.bool true)])):=by
 refine Con.frzA ?_
 have hq:=jU h.n4
 have hn:=h.n4
 have hl:=h.len
 have hb:=h.bd
 have cok:=VY n (l.map SpV.iv) (by rw[List.length_map];exact h.l16) (avJ h)
 rw[avK h,aSl,List.length_map]at cok
 have hpost:l.map (fun s=>s)=mpT l (fun s=>s) (n*n):=by rw[←hl];exact yh.symm
 rw[hpost]
 refine Con.of_aw Tryz.func62 rfl Tryz.ntmps62 (by simp) (by simp) (by simp) (W.sound ?_)
 show @W Tryz.prog 40 ⟨_⟩ ⟨fun x σ=>@zl _ _ _ ⟨_⟩ _ ⟨_⟩ x σ⟩ _ _
 simp(disch:=omega)only[go_sem]
 refine qn (cok) ?_
 simp(disch:=omega)only[go_sem]
 refine qF (jB n hn) (by simp(disch:=omega)only[go_sem]) ?_
 rintro r hs ⟨rfl,rfl⟩
 refine⟨by simp[qL];simp(disch:=omega)only[go_sem],?_⟩
 simp(disch:=omega)only[go_sem]
 refine qj (fun i:Nat=>[(1,.pt 2 0),(2,.pt 3 0),(4,.pt 4 0),(5,.v (.int .i64 i))])
  (fun i=>[(1,.own 6 (ql SpV.cs (mpT l (fun s=>s) i)++zG (n*n-i) z6)),(2,.own 0 [.v (.int .i64 n),.sl l.length (ql SpV.cs l)]),(3,.own 0 [.v (.int .i64 0),.v (.slice none 0 0)]),(4,.own 0 [.v (.int .i64 n),.rf 1 0 (n*n)])]) (fun i=>i≤n*n) (fun i=>n*n-i) 0 (by omega)
  (Le.lst [(1,140000000),(2,30000000),(3,40000000),(4,60000000)] _ _ rfl (by simp(disch:=omega)only[go_sem]) (by simp(disch:=omega)only[go_sem,Nat.sub_zero,show mpT l (fun s=>s) 0=[] from rfl,yb,List.nil_append])) ?_
 intro i hi
 simp(disch:=omega)only[go_sem]
 refine qi (fun h1=>?_) (fun h1=>?_)
 ·have hi2:i<n*n:=by omega
  obtain⟨k0,hk0⟩:∃k0,n*n-i=k0+1:=⟨n*n-i-1,by omega⟩
  have hk1:n*n-(i+1)=k0:=by omega
  have hAl:(mpT l (fun s=>s) i).length=i:=zK (by omega)
  have hs:=jF (F:=fun s=>s) sp0 (l:=l) (i:=i) (by omega)
  have hc:=zX (l:=l) (i:=i) (by omega)
  have hcl:=aiw (L:=l) (i:=i) (by omega)
  have hch:=aix (L:=l) (i:=i) (by omega)
  have hxm:l.getD i sp0∈l:=by rw[List.getD_eq_getElem?_getD,List.getElem?_eq_getElem (by omega)];exact List.getElem_mem _
  have hx:=hb (l.getD i sp0) (by rw[List.getD_eq_getElem?_getD,List.getElem?_eq_getElem (by omega)];exact List.getElem_mem _)
  generalize l.getD i sp0=x at*
  obtain⟨-, -,o1,o2⟩:=aiy (h.ok _ hxm)
  have c1:=adh x.lo o1
  have c2:=adh x.hi o2
  rw[hk0]
  generalize mpT l (fun s=>s) i=A at*
  obtain rfl:A.length=i:=hAl
  simp(disch:=omega)only[go_sem,h1]
  refine qv rfl [⟨0,[],[]⟩,⟨1,[],[]⟩,⟨2,[1],[]⟩,⟨3,[1],[]⟩,⟨4,[1],[]⟩,⟨5,[1,4],[]⟩,⟨6,[1],[]⟩,⟨7,[1],[]⟩,⟨8,[1],[]⟩,⟨10,[1,4,8],[]⟩,⟨11,[1,4,8],[]⟩,⟨12,[1,4,8,11],[]⟩,⟨13,[1,4,8],[]⟩,⟨14,[1,4,8],[]⟩,⟨15,[1,4,8],[]⟩,⟨9,[1,11,15],[]⟩,⟨16,[1],[]⟩,⟨17,[1],[]⟩,⟨18,[],[]⟩,⟨19,[],[]⟩] (by kernel_rfl) ?_
  simp(disch:=omega)only[go_sem,hcl,hch]
  refine⟨by omega,by omega,by omega,by omega,?_⟩
  refine qa (c1) ?_
  simp(disch:=omega)only[go_sem]
  refine qa (c2) ?_
  simp(disch:=omega)only[go_sem]
  rw[yN]
  exact⟨by omega,by rw[List.length_append,yc,Jc];omega,qe (A.length+1) [] (by show A.length+1≤n*n;omega) (by show n*n-(A.length+1)<k0+1;omega) rfl (by simp(disch:=omega)only[go_sem];try omega) (by simp(disch:=omega)only[go_sem,hk1,hs])⟩
 ·simp(disch:=omega)only[go_sem,h1]
  obtain rfl:i=n*n:=by omega
  have hll:(mpT l (fun s=>s) (n*n)).length=n*n:=zK (by omega)
  rw[hll]
  refine qm [(0,1)] [.own 6 (ql SpV.cs (mpT l (fun s=>s) (n*n)))] [] [.ag [.v (.int .i64 n),.rf 0 0 (n*n)],.v (.bool true)] rfl (by simp(disch:=omega)only[go_sem]) (by simp(disch:=omega)only[go_sem,Nat.sub_self,Q8,List.append_nil]) (by simp) (by simp) ?_
  show qK _ 6 _=_
  simp(disch:=omega)only[go_sem,qY,zM hll]
def adG(s t:SpV):SpV:=⟨zq ((qG ExV.times s t).map ExV.can),zh ((qG ExV.times s t).map ExV.can)⟩
def csD(n:Nat)(l l':List SpV)(i j:Nat):Nat→SpV
 |0=>sp0
 |k+1=>((csD n l l' i j k).plus (adG (l.getD (i*n+k) sp0) (l'.getD (k*n+j) sp0))).can
theorem acf{lo hi:Int}{s:SpV}(h:s.bd lo hi)(h1:lo≤0)(h2:0≤hi):s.can.bd lo hi:=⟨QE h.1 h1 h2,QE h.2 h1 h2⟩
theorem ava{s t:SpV}{l1 h1 l2 h2:Int}(hs:s.bd l1 h1)(ht:t.bd l2 h2)(h0:l1+l2≤0∧0≤h1+h2):(adG s t).bd (l1+l2) (h1+h2):=by
 have he:=VK (F:=ExV.times) hs ht (fun x y hx hy=>ExV.times_bd hx hy)
 have hc:gbd (l1+l2) (h1+h2) ((qG ExV.times s t).map ExV.can):=fun x hx=>by
  obtain⟨y,hy,rfl⟩:=List.mem_map.1 hx
  exact QE (he y hy) h0.1 h0.2
 exact⟨Zq hc (by simp[qG]),Zn hc (by simp[qG])⟩
theorem aNK{l1 h1 l2 h2:Int}{n:Nat}{l l':List SpV}{i j:Nat}(hi:i<n)(hj:j<n)(hl:l.length=n*n)(hl':l'.length=n*n)(hb:sbd l1 h1 l)(hb':sbd l2 h2 l')(h0:l1+l2≤0∧0≤h1+h2):∀k:Nat,k≤n→(csD n l l' i j k).bd (l1+l2) (h1+h2+k)
 |0,_=>aM3 h0.1 (by omega)
 |k+1,hk=>by
  have ih:=aNK hi hj hl hl' hb hb' h0 k (by omega)
  have hm:=ava (zY hb (show i*n+k<l.length by rw[hl];exact zi hi (by omega))) (zY hb' (show k*n+j<l'.length by rw[hl'];exact zi (by omega) hj)) h0
  have:=acf (SpV.plus_bd ih (SpV.bd.mono hm (Int.le_refl _) (show h1+h2≤h1+h2+k by omega))) h0.1 (by omega)
  exact SpV.bd.mono this (Int.le_refl _) (by omega)
def scT(n:Nat)(l l':List SpV)(k:Nat):List SpV:=gly n (fun i j=>csD n l l' i j n) k
set_option maxRecDepth 100000 in
theorem XR(n:Nat)(l l':List SpV)(hn:n≤4)(hl:l.length=n*n)(hl':l'.length=n*n)(hb:sbd (-190000) 190000 l)(hb':sbd (-190000) 190000 l'):Con Tryz.prog 136 false [.ag [.v (.int .i64 (n)),.sl (l).length (ql SpV.cs (l))],.ag [.v (.int .i64 (n)),.sl (l').length (ql SpV.cs (l'))]] [] (isA (.ag [.v (.int .i64 (n)),.sl (scT n l l' (n*n)).length (ql SpV.cs (scT n l l' (n*n)))])):=by
 refine Con.frzA ?_
 have hq:=jU hn
 refine Con.of_aw Tryz.func136 rfl Tryz.ntmps136 (by simp) (by simp) (by simp) (W.sound ?_)
 show @W Tryz.prog 61 ⟨_⟩ ⟨fun x σ=>@zl _ _ _ ⟨_⟩ _ ⟨_⟩ x σ⟩ _ _
 simp(disch:=omega)only[go_sem]
 refine qF (jB n hn) (by simp(disch:=omega)only[go_sem]) ?_
 rintro r hs ⟨rfl,rfl⟩
 refine⟨by simp[qL];simp(disch:=omega)only[go_sem],?_⟩
 simp(disch:=omega)only[go_sem]
 refine qj (fun i:Nat=>[(2,.pt 2 0),(3,.pt 3 0),(4,.pt 4 0),(5,.v (.int .i64 n)),(6,.pt 5 0),(7,.v (.int .i64 i))])
  (fun i=>[(1,.own 6 (ql SpV.cs (scT n l l' (i*n))++zG (n*n-i*n) z6)),(2,.own 0 [.v (.int .i64 n),.sl l.length (ql SpV.cs l)]),(3,.own 0 [.v (.int .i64 n),.sl l'.length (ql SpV.cs l')]),(4,.own 0 [.v (.int .i64 0),.v (.slice none 0 0)]),(5,.own 0 [.v (.int .i64 n),.rf 1 0 (n*n)])]) (fun i=>i≤n) (fun i=>n-i) 0 (by omega)
  (Le.lst [(1,160000000),(2,40000000),(3,50000000),(4,60000000),(5,80000000)] _ _ rfl (by simp(disch:=omega)only[go_sem]) (by simp(disch:=omega)only[go_sem,Nat.zero_mul,Nat.sub_zero,show scT n l l' 0=[] from rfl,yb,List.nil_append])) ?_
 intro i hi
 simp(disch:=omega)only[go_sem]
 refine qi (fun h1=>?_) (fun h1=>?_)
 ·simp(disch:=omega)only[go_sem,h1]
  have hin:i*n≤16:=Nat.mul_le_mul (show i≤4 by omega) hn
  refine qj (fun j:Nat=>[(2,.pt 2 0),(3,.pt 3 0),(4,.pt 4 0),(5,.v (.int .i64 n)),(6,.pt 5 0),(7,.v (.int .i64 i)),(8,.v (.int .i64 j))])
   (fun j=>[(1,.own 6 (ql SpV.cs (scT n l l' (i*n+j))++zG (n*n-(i*n+j)) z6)),(2,.own 0 [.v (.int .i64 n),.sl l.length (ql SpV.cs l)]),(3,.own 0 [.v (.int .i64 n),.sl l'.length (ql SpV.cs l')]),(4,.own 0 [.v (.int .i64 0),.v (.slice none 0 0)]),(5,.own 0 [.v (.int .i64 n),.rf 1 0 (n*n)])]) (fun j=>j≤n) (fun j=>n-j) 0 (by omega)
   (Le.lst [] _ _ rfl (by simp(disch:=omega)only[go_sem]) (by simp(disch:=omega)only[go_sem,Nat.add_zero])) ?_
  intro j hj
  simp(disch:=omega)only[go_sem]
  refine qi (fun h2=>?_) (fun h2=>?_)
  ·have hij:=zi (show i<n by omega) (show j<n by omega)
   obtain⟨k0,hk0⟩:∃k0,n*n-(i*n+j)=k0+1:=⟨n*n-(i*n+j)-1,by omega⟩
   have hk1:n*n-(i*n+(j+1))=k0:=by omega
   have hs:scT n l l' (i*n+(j+1))=scT n l l' (i*n+j)++[csD n l l' i j n]:=by
    have:=@ai8 _ n (fun i j=>csD n l l' i j n) (i*n+j)
    have m:=acA (n:=n) (i:=i) (j:=j) (by omega)
    rw[m.1,m.2]at this
    exact this
   have hAl:(scT n l l' (i*n+j)).length=i*n+j:=zS
   have eidx:(i:Int)*(n:Int)+(j:Int)=((scT n l l' (i*n+j)).length:Int):=by rw[hAl,Int.natCast_add,Int.natCast_mul]
   rw[hk0]
   generalize hA:scT n l l' (i*n+j)=A at*
   simp(disch:=omega)only[go_sem,h2]
   refine qj (fun k:Nat=>[(2,.pt 2 0),(3,.pt 3 0),(4,.pt 4 0),(5,.v (.int .i64 n)),(6,.pt 5 0),(7,.v (.int .i64 i)),(8,.v (.int .i64 j)),(9,.pt 6 0),(10,.v (.int .i64 k))])
    (fun k=>[(1,.own 6 (ql SpV.cs A++zG (k0+1) z6)),(2,.own 0 [.v (.int .i64 n),.sl l.length (ql SpV.cs l)]),(3,.own 0 [.v (.int .i64 n),.sl l'.length (ql SpV.cs l')]),(4,.own 0 [.v (.int .i64 0),.v (.slice none 0 0)]),(5,.own 0 [.v (.int .i64 n),.rf 1 0 (n*n)]),
     (6,.own 0 [.v (.bool (csD n l l' i j k).lo.s),.sl (lim (csD n l l' i j k).lo.m).length (qg (lim (csD n l l' i j k).lo.m)),.v (.int .i64 (csD n l l' i j k).lo.e),.v (.bool (csD n l l' i j k).hi.s),.sl (lim (csD n l l' i j k).hi.m).length (qg (lim (csD n l l' i j k).hi.m)),.v (.int .i64 (csD n l l' i j k).hi.e)])])
    (fun k=>k≤n) (fun k=>n-k) 0 (by omega)
    ((Le.nilC 110000000 1 (zo:=0) (cs:=[.v (.bool false),.v (.slice none 0 0),.v (.int .i64 0),.v (.bool false),.v (.slice none 0 0),.v (.int .i64 0)]) (by simp(disch:=omega)only[go_sem]) rfl).trans
     ((Le.nilC 110000000 4 (zo:=0) (cs:=[.v (.bool false),.sl 0 [],.v (.int .i64 0),.v (.bool false),.v (.slice none 0 0),.v (.int .i64 0)]) (by simp(disch:=omega)only[go_sem,List.set_cons_succ,List.set_cons_zero]) rfl).trans (Le.lst [(6,110000000)] _ _ rfl (by simp(disch:=omega)only[go_sem]) (by simp(disch:=omega)only[go_sem,List.set_cons_succ,List.set_cons_zero,show csD n l l' i j 0=sp0 from rfl,sp0,ex0,qz])))) ?_
   intro k hk
   have hD:=aNK (show i<n by omega) (show j<n by omega) hl hl' hb hb' (by omega) k hk
   have hsd:csD n l l' i j (k+1)=((csD n l l' i j k).plus (adG (l.getD (i*n+k) sp0) (l'.getD (k*n+j) sp0))).can:=rfl
   generalize hDD:csD n l l' i j k=D at*
   simp(disch:=omega)only[go_sem]
   refine qi (fun h3=>?_) (fun h3=>?_)
   ·have hx:=zi (show i<n by omega) (show k<n by omega)
    have hx':=zi (show k<n by omega) (show j<n by omega)
    have e1:(i:Int)*(n:Int)+(k:Int)=((i*n+k:Nat):Int):=by rw[Int.natCast_add,Int.natCast_mul]
    have e2:(k:Int)*(n:Int)+(j:Int)=((k*n+j:Nat):Int):=by rw[Int.natCast_add,Int.natCast_mul]
    have hkn:k*n≤16:=Nat.mul_le_mul (show k≤4 by omega) hn
    have hp1:(i:Int)*(n:Int)≤16∧0≤(i:Int)*(n:Int):=by rw[←Int.natCast_mul];omega
    have hp2:(k:Int)*(n:Int)≤16∧0≤(k:Int)*(n:Int):=by rw[←Int.natCast_mul];omega
    have g1:=zX (l:=l) (i:=i*n+k) (by omega)
    have g2:=zX (l:=l') (i:=k*n+j) (by omega)
    have b1:=zY hb (show i*n+k<l.length by omega)
    have b2:=zY hb' (show k*n+j<l'.length by omega)
    have l1:i*n+k<l.length:=by omega
    have l2:k*n+j<l'.length:=by omega
    generalize l.getD (i*n+k) sp0=x at*
    generalize l'.getD (k*n+j) sp0=y at*
    generalize i*n+k=p at*
    generalize k*n+j=q at*
    have bt:=ava b1 b2 (by omega)
    have c1:=aoH x y (SpV.bd.mono b1 (by omega) (by omega)) (SpV.bd.mono b2 (by omega) (by omega))
    change Con _ _ _ _ _ (isA (.ag [.v (.bool (adG x y).lo.s),.sl (lim (adG x y).lo.m).length (qg (lim (adG x y).lo.m)),.v (.int .i64 (adG x y).lo.e),.v (.bool (adG x y).hi.s),.sl (lim (adG x y).hi.m).length (qg (lim (adG x y).hi.m)),.v (.int .i64 (adG x y).hi.e)]))at c1
    have c2:=XJ D (adG x y) (SpV.bd.mono hD (by omega) (by omega)) (SpV.bd.mono bt (by omega) (by omega))
    rw[←hsd]at c2
    generalize adG x y=Z at*
    simp(disch:=omega)only[go_sem,h3]
    refine qv rfl [⟨0,[],[]⟩,⟨1,[0],[]⟩,⟨2,[0],[]⟩,⟨3,[0,2],[]⟩,⟨4,[0,2],[]⟩,⟨5,[0,2],[]⟩,⟨6,[0,2],[]⟩,⟨7,[0,2],[]⟩,⟨8,[0],[]⟩,⟨9,[0],[]⟩,⟨10,[0,2,9],[]⟩,⟨11,[0,2,9],[]⟩,⟨12,[0,2,9,11],[]⟩,⟨13,[0,2,9,11],[]⟩,⟨14,[0,2,9,11],[]⟩,⟨15,[0,2,9,11],[]⟩,⟨16,[0,2,9,11],[]⟩,⟨17,[0,2,9],[]⟩,⟨18,[0,2,9],[]⟩,⟨19,[0],[]⟩,⟨20,[],[]⟩,⟨21,[],[]⟩] (by kernel_rfl) ?_
    simp(disch:=omega)only[go_sem,e1,e2,g1,g2]
    refine⟨by omega,by omega,by omega,by omega,?_⟩
    refine qa (c1) ?_
    simp(disch:=omega)only[go_sem]
    refine qa (c2) ?_
    simp(disch:=omega)only[go_sem]
    exact qe (k+1) [] (by show k+1≤_;omega) (by show n-(k+1)<n-k;omega) rfl (by simp(disch:=omega)only[go_sem];try omega) (by simp(disch:=omega)only[go_sem])
   ·obtain rfl:n=k:=by omega
    rw[hDD]at hs
    have hp1:(i:Int)*(n:Int)≤16∧0≤(i:Int)*(n:Int):=by rw[←Int.natCast_mul];omega
    have hA2:(A.length:Int)=(i:Int)*(n:Int)+(j:Int):=eidx.symm
    simp(disch:=omega)only[go_sem,h3,eidx]
    rw[yN]
    refine⟨by omega,by rw[List.length_append,yc,Jc];omega,qe (j+1) [] (by show j+1≤_;omega) (by show n-(j+1)<n-j;omega) rfl (by simp(disch:=omega)only[go_sem];try omega) (by simp(disch:=omega)only[go_sem,hk1,hs])⟩
  ·simp(disch:=omega)only[go_sem,h2]
   obtain rfl:n=j:=by omega
   exact qe (i+1) [] (by show i+1≤_;omega) (by show n-(i+1)<n-i;omega) rfl (by simp(disch:=omega)only[go_sem,Nat.add_mul,Nat.one_mul];try omega) (by simp(disch:=omega)only[go_sem,Nat.add_mul,Nat.one_mul])
 ·simp(disch:=omega)only[go_sem,h1]
  obtain rfl:n=i:=by omega
  have hll:(scT n l l' (n*n)).length=n*n:=zS
  rw[hll]
  refine qm [(0,1)] [.own 6 (ql SpV.cs (scT n l l' (n*n)))] [] [.ag [.v (.int .i64 n),.rf 0 0 (n*n)]] rfl (by simp(disch:=omega)only[go_sem]) (by simp(disch:=omega)only[go_sem,Nat.sub_self,Q8,List.append_nil]) (by simp) (by simp) ?_
  show qK _ 6 _=_
  simp(disch:=omega)only[go_sem,qY,zM hll]
end Go.Ab
namespace Go.Ab
open Go Go.Proofs
/-! ### The specification's exponential-/
theorem ah7(x y:ExV):x.can.cmp y.can=x.cmp y:=by
 obtain⟨K,hK⟩:∃K:Nat, -(K:Int)≤x.e∧ -(K:Int)≤y.e:=⟨(max (-x.e) (-y.e)).toNat,by omega,by omega⟩
 rw[yi (jP hK.1) (jP hK.2),yi hK.1 hK.2,z7 hK.1,z7 hK.2]
theorem aiW(x y:ExV):zb x.can y.can=(zb x y).can:=by
 unfold zb
 rw[ah7]
 split<;>rfl
theorem avq(x y:ExV):qU x.can y.can=(qU x y).can:=by
 unfold qU
 rw[ah7]
 split<;>rfl
theorem acU:∀(l:List ExV) (m:ExV),(l.map ExV.can).foldl zb m.can=(l.foldl zb m).can
 | [],m=>rfl
 |x::l,m=>by rw[List.map_cons,List.foldl_cons,aiW,acU l,List.foldl_cons]
theorem acV:∀(l:List ExV) (m:ExV),(l.map ExV.can).foldl qU m.can=(l.foldl qU m).can
 | [],m=>rfl
 |x::l,m=>by rw[List.map_cons,List.foldl_cons,avq,acV l,List.foldl_cons]
theorem avb{x:ExV}{l:List ExV}:zh ((x::l).map ExV.can)=(zh (x::l)).can:=acU l x
theorem aog{x:ExV}{l:List ExV}:zq ((x::l).map ExV.can)=(zq (x::l)).can:=acV l x
theorem aJK(s t:SpV):adG s.can t.can=(s.times t).can:=by
 obtain⟨K,hK⟩:∃K:Nat,(-(K:Int)≤s.lo.e∧ -(K:Int)≤s.hi.e)∧(-(K:Int)≤t.lo.e∧ -(K:Int)≤t.hi.e):=⟨(max (max (-s.lo.e) (-s.hi.e)) (max (-t.lo.e) (-t.hi.e))).toNat,by omega,by omega⟩
 have e:(qG ExV.times s.can t.can).map ExV.can=(qG ExV.times s t).map ExV.can:=by
  show [(s.lo.can.times t.lo.can).can,(s.lo.can.times t.hi.can).can,(s.hi.can.times t.lo.can).can,(s.hi.can.times t.hi.can).can]=[(s.lo.times t.lo).can,(s.lo.times t.hi).can,(s.hi.times t.lo).can,(s.hi.times t.hi).can]
  rw[Za hK.1.1 hK.2.1,Za hK.1.1 hK.2.2,Za hK.1.2 hK.2.1,Za hK.1.2 hK.2.2]
 unfold adG
 rw[e]
 unfold qG
 rw[avb,aog];rfl
theorem J6(s t:SpV):(s.can.plus t.can).can=(s.plus t).can:=by
 obtain⟨K,hK⟩:∃K:Nat,(-(K:Int)≤s.lo.e∧ -(K:Int)≤s.hi.e)∧(-(K:Int)≤t.lo.e∧ -(K:Int)≤t.hi.e):=⟨(max (max (-s.lo.e) (-s.hi.e)) (max (-t.lo.e) (-t.hi.e))).toNat,by omega,by omega⟩
 show(⟨(s.lo.can.plus t.lo.can).can,(s.hi.can.plus t.hi.can).can⟩:SpV)=⟨(s.lo.plus t.lo).can,(s.hi.plus t.hi).can⟩
 rw[Vd hK.1.1 hK.2.1,Vd hK.1.2 hK.2.2]
theorem aul:sp0.can=sp0:=by
 have:ex0.can=ex0:=aiS ac0
 show(⟨ex0.can,ex0.can⟩:SpV)=⟨ex0,ex0⟩
 rw[this]
theorem Zd{l:List SpV}{i:Nat}:(l.map SpV.can).getD i sp0=(l.getD i sp0).can:=by
 rw[List.getD_eq_getElem?_getD,List.getElem?_map,List.getD_eq_getElem?_getD]
 cases l[i]? with
 |none=>exact aul.symm
 |some x=>rfl
theorem awt{n:Nat}{l l':List SpV}{i j:Nat}:∀k,csD n (l.map SpV.can) (l'.map SpV.can) i j k=(js n l l' i j k).can
 |0=>aul.symm
 |k+1=>by
  show((csD n (l.map SpV.can) (l'.map SpV.can) i j k).plus (adG _ _)).can=_
  rw[awt k,Zd,Zd,aJK,J6,yw]
theorem auv{n:Nat}{l l':List SpV}:scT n (l.map SpV.can) (l'.map SpV.can) (n*n)=(qP n l l').map SpV.can:=by
 unfold scT qP gly
 rw[List.map_map]
 exact List.map_congr_left fun t _=>awt n
theorem aWV{l l':List SpV}{k:Nat}(hk:k=l.length):zpT (fun s t=>(s.plus t).can) (l.map SpV.can) (l'.map SpV.can) k=(yD l l').map SpV.can:=by
 unfold zpT yD
 rw[List.map_map,hk]
 exact List.map_congr_left fun t _=>by
  show(((l.map SpV.can).getD t sp0).plus ((l'.map SpV.can).getD t sp0)).can=_
  rw[Zd,Zd,J6];rfl
theorem aTg(s:SpV)(low:Int):(s.can.out low).can=(s.out low).can:=by
 show(⟨(s.lo.can.rnd low 3).can,(s.hi.can.rnd low 2).can⟩:SpV)=⟨(s.lo.rnd low 3).can,(s.hi.rnd low 2).can⟩
 rw[agV,agV]
theorem aTQ{x y:ExV}:(x.can.plus y.can.neg).can=(x.plus y.neg).can:=by
 obtain⟨K,hK⟩:∃K:Nat, -(K:Int)≤x.e∧ -(K:Int)≤y.e:=⟨(max (-x.e) (-y.e)).toNat,by omega,by omega⟩
 have e1: -(K:Int)≤y.can.neg.e:=jP hK.2
 have e2: -(K:Int)≤y.neg.e:=hK.2
 exact Jo (yf (jP hK.1) e1) (yf hK.1 e2) (by rw[zB (jP hK.1) e1,zB hK.1 e2,Vj,Vj,z7 hK.1,z7 hK.2])
theorem aVs(s:SpV)(y:ExV):(s.can.fat y.can).can=(s.fat y).can:=by
 obtain⟨K,hK⟩:∃K:Nat, -(K:Int)≤s.hi.e∧ -(K:Int)≤y.e:=⟨(max (-s.hi.e) (-y.e)).toNat,by omega,by omega⟩
 show(⟨(s.lo.can.plus y.can.neg).can,(s.hi.can.plus y.can).can⟩:SpV)=⟨(s.lo.plus y.neg).can,(s.hi.plus y).can⟩
 rw[aTQ,Vd hK.1 hK.2]
theorem acu{K k:Nat}{x y:ExV}{low md:Int}(hmd:md=3∨md=2)(hk:k≠0)(hx: -(K:Int)≤x.e)(hy: -(K:Int)≤y.e)(hl: -(K:Int)≤low)(h:x.val K≤y.val K):(x.over (exN k) low md).val K≤(y.over (exN k) low md).val K:=by
 have hn:(exN k).m≠0:=hk
 have h0: -((0:Nat):Int)≤(exN k).e:=by show-((0:Nat):Int)≤0;omega
 obtain⟨a,b,f,hb,hf,e1,e2,e3⟩:=Zk (mode:=md) hn hx h0 hl
 obtain⟨a',b',f',hb',hf',e1',e2',e3'⟩:=Zk (mode:=md) hn hy h0 hl
 have hv:(exN k).val 0=k:=by show sv false k*2^((0:Int)+((0:Nat):Int)).toNat=k;simp[sv]
 have hva:((((k:Int)).natAbs:Nat):Int)=k:=by omega
 rw[hv]at e1 e3 e1' e3'
 rw[hva]at e3 e3'
 have hbf:(b:Int)*f=b'*f':=by rw[←e3,←e3']
 have key:∀(s:Bool) (a b:Nat),0<b→(sv s 1*((rq s a b md*b:Nat):Int)≤sv s 1*(a:Int)∧sv s 1*(a:Int)<sv s 1*((rq s a b md*b:Nat):Int)+b∧md=3)∨(sv s 1*(a:Int)≤sv s 1*((rq s a b md*b:Nat):Int)∧sv s 1*((rq s a b md*b:Nat):Int)<sv s 1*(a:Int)+b∧md=2):=fun s a b hb=>by
  have h1:=Nat.div_add_mod a b
  have h2:=Nat.mod_lt a hb
  have h3:a/b*b=b*(a/b):=Nat.mul_comm _ _
  have h4:(a/b+1)*b=b*(a/b)+b:=by rw[Nat.add_mul,Nat.one_mul,Nat.mul_comm]
  have dn:∀Q:Nat,Q≤a→a<Q+b→sv false 1*(Q:Int)≤sv false 1*(a:Int)∧sv false 1*(a:Int)<sv false 1*(Q:Int)+b∧sv true 1*(a:Int)≤sv true 1*(Q:Int)∧sv true 1*(Q:Int)<sv true 1*(a:Int)+b:=fun Q p1 p2=>by
   simp only[sv,if_true,if_false,Bool.false_eq_true];omega
  have up:∀Q:Nat,a≤Q→Q<a+b→sv false 1*(a:Int)≤sv false 1*(Q:Int)∧sv false 1*(Q:Int)<sv false 1*(a:Int)+b∧sv true 1*(Q:Int)≤sv true 1*(a:Int)∧sv true 1*(a:Int)<sv true 1*(Q:Int)+b:=fun Q p1 p2=>by
   simp only[sv,if_true,if_false,Bool.false_eq_true];omega
  rcases hmd with rfl|rfl
  ·left
   rw[auE]
   unfold upQ
   cases s
   ·rw[if_neg (by simp),h3]
    have:=dn (b*(a/b)) (by omega) (by omega)
    exact⟨this.1,this.2.1,rfl⟩
   ·rw[if_pos rfl]
    split
    ·rw[h3]
     have:=up (b*(a/b)) (by omega) (by omega)
     exact⟨this.2.2.1,this.2.2.2,rfl⟩
    ·rw[h4]
     have:=up (b*(a/b)+b) (by omega) (by omega)
     exact⟨this.2.2.1,this.2.2.2,rfl⟩
  ·right
   rw[aXY]
   unfold upQ
   cases s
   ·rw[if_neg (by simp)]
    split
    ·rw[h3]
     have:=up (b*(a/b)) (by omega) (by omega)
     exact⟨this.1,this.2.1,rfl⟩
    ·rw[h4]
     have:=up (b*(a/b)+b) (by omega) (by omega)
     exact⟨this.1,this.2.1,rfl⟩
   ·rw[if_pos rfl,h3]
    have:=dn (b*(a/b)) (by omega) (by omega)
    exact⟨this.2.2.1,this.2.2.2,rfl⟩
 have es:∀z:ExV,(z.s != (exN k).s)=z.s:=fun z=>by show(z.s != false)=z.s;cases z.s<;>rfl
 rw[es]at e1 e1'
 have kx:=key x.s a b hb
 have ky:=key y.s a' b' hb'
 rcases Int.lt_or_le ((y.over (exN k) low md).val K) ((x.over (exN k) low md).val K)with g|g
 ·exfalso
  have hp:=ze K
  have hkp:(0:Int)<k:=by omega
  have g1:((y.over (exN k) low md).val K+p2 (low+(K:Int)).toNat)≤(x.over (exN k) low md).val K:=by
   have v:∀z:ExV,∃q:Int,(z.over (exN k) low md).val K=q*p2 (low+(K:Int)).toNat:=fun z=>⟨_,rfl⟩
   obtain⟨q1,v1⟩:=v x
   obtain⟨q2,v2⟩:=v y
   rw[v1,v2]at g ⊢
   have hpl:=ze (low+(K:Int)).toNat
   have:=Int.lt_of_mul_lt_mul_right g (Int.le_of_lt hpl)
   have:=Int.mul_le_mul_of_nonneg_right (show q2+1≤q1 by omega) (Int.le_of_lt hpl)
   rw[Int.add_mul,Int.one_mul]at this
   exact this
  have g2:=Int.mul_le_mul_of_nonneg_right g1 (Int.le_of_lt (Int.mul_pos hkp hp))
  have u:(k:Int)*p2 ((low+(K:Int)).toNat+K)=b*f:=e3
  have u1:((y.over (exN k) low md).val K+p2 (low+(K:Int)).toNat)*(k*p2 K)=(y.over (exN k) low md).val K*k*p2 K+b*f:=by rw[←u,zI];grind
  have u2:(x.over (exN k) low md).val K*(k*p2 K)=(x.over (exN k) low md).val K*k*p2 K:=by rw[Int.mul_assoc]
  rw[u1,u2,e1,e1']at g2
  have hxy:x.val K*p2 (0+K)≤y.val K*p2 (0+K):=Int.mul_le_mul_of_nonneg_right h (Int.le_of_lt (ze _))
  rw[e2,e2']at hxy
  have m1:∀p q:Int,p≤q→p*f≤q*f:=fun p q hpq=>Int.mul_le_mul_of_nonneg_right hpq (Int.le_of_lt hf)
  have m2:∀p q:Int,p≤q→p*f'≤q*f':=fun p q hpq=>Int.mul_le_mul_of_nonneg_right hpq (Int.le_of_lt hf')
  have m3:∀p q:Int,p<q→p*f<q*f:=fun p q hpq=>Int.mul_lt_mul_of_pos_right hpq hf
  have m4:∀p q:Int,p<q→p*f'<q*f':=fun p q hpq=>Int.mul_lt_mul_of_pos_right hpq hf'
  have a1:sv x.s 1*((rq x.s a b md*b:Nat)*f)=sv x.s 1*((rq x.s a b md*b:Nat):Int)*f:=(Int.mul_assoc _ _ _).symm
  have a2:sv x.s 1*(a*f)=sv x.s 1*(a:Int)*f:=(Int.mul_assoc _ _ _).symm
  have a3:sv y.s 1*((rq y.s a' b' md*b':Nat)*f')=sv y.s 1*((rq y.s a' b' md*b':Nat):Int)*f':=(Int.mul_assoc _ _ _).symm
  have a4:sv y.s 1*(a'*f')=sv y.s 1*(a':Int)*f':=(Int.mul_assoc _ _ _).symm
  rw[a1,a3]at g2
  rw[a2,a4]at hxy
  rcases kx with⟨c1,c2,c3⟩|⟨c1,c2,c3⟩<;>rcases ky with⟨d1,d2,d3⟩|⟨d1,d2,d3⟩<;>first|omega|skip
  ·have:=m1 _ _ c1
   have:=m4 _ _ d2
   rw[Int.add_mul]at this
   omega
  ·have:=m2 _ _ d1
   have:=m3 _ _ c2
   rw[Int.add_mul]at this
   omega
 ·exact g
theorem aK6{K k:Nat}{s:SpV}{low:Int}(hk:k≠0)(hl: -(K:Int)≤low)(es:s.eK K)(h:s.lo.val K≤s.hi.val K):(SpV.mk (s.can.lo.over (exN k) low 3).can (s.can.hi.over (exN k) low 2).can)=(s.divd k low).can:=by
 have hn:(exN k).m≠0:=hk
 have oc:∀(x:ExV) (md:Int),(x.can.over (exN k) low md).can=(x.over (exN k) low md).can:=fun x md=>by
  have a:=@Vf x (exN k) low md hn
  have b:=@Vf x.can (exN k) low md hn
  rw[V3]at b
  rw[←b,a]
 show(⟨(s.lo.can.over (exN k) low 3).can,(s.hi.can.over (exN k) low 2).can⟩:SpV)=⟨(zq (qG (fun x y=>x.over y low 3) s ⟨exN k,exN k⟩)).can,(zh (qG (fun x y=>x.over y low 2) s ⟨exN k,exN k⟩)).can⟩
 rw[oc,oc]
 have eo:∀(x:ExV) (md:Int), -(K:Int)≤(x.over (exN k) low md).e:=fun x md=>hl
 have m3:=acu (low:=low) (md:=3) (.inl rfl) hk es.1 es.2 hl h
 have m2:=acu (low:=low) (md:=2) (.inr rfl) hk es.1 es.2 hl h
 have e3:Go.Ab.eK K (qG (fun x y=>x.over y low 3) s ⟨exN k,exN k⟩):=fun x hx=>by
  simp only[qG,List.mem_cons,List.not_mem_nil,or_false]at hx
  rcases hx with rfl|rfl|rfl|rfl<;>exact eo _ _
 have e2:Go.Ab.eK K (qG (fun x y=>x.over y low 2) s ⟨exN k,exN k⟩):=fun x hx=>by
  simp only[qG,List.mem_cons,List.not_mem_nil,or_false]at hx
  rcases hx with rfl|rfl|rfl|rfl<;>exact eo _ _
 obtain⟨l1,l2⟩:=yA e3
 obtain⟨u1,u2⟩:=Qr e2
 have lm:=ZW (l:=qG (fun x y=>x.over y low 3) s ⟨exN k,exN k⟩) (by simp[qG])
 have um:=Yj (l:=qG (fun x y=>x.over y low 2) s ⟨exN k,exN k⟩) (by simp[qG])
 have la:=l1 (s.lo.over (exN k) low 3) (by simp[qG])
 have ua:=u1 (s.hi.over (exN k) low 2) (by simp[qG])
 have lb:(s.lo.over (exN k) low 3).val K≤(zq (qG (fun x y=>x.over y low 3) s ⟨exN k,exN k⟩)).val K:=by
  simp only[qG,List.mem_cons,List.not_mem_nil,or_false]at lm
  unfold qG
  dsimp only
  rcases lm with e|e|e|e<;>rw[e]<;>first|exact Int.le_refl _|exact m3
 have ub:(zh (qG (fun x y=>x.over y low 2) s ⟨exN k,exN k⟩)).val K≤(s.hi.over (exN k) low 2).val K:=by
  simp only[qG,List.mem_cons,List.not_mem_nil,or_false]at um
  unfold qG
  dsimp only
  rcases um with e|e|e|e<;>rw[e]<;>first|exact Int.le_refl _|exact m2
 rw[Jo (eo _ _) l2 (Int.le_antisymm lb la),Jo (eo _ _) u2 (Int.le_antisymm ua ub)]
end Go.Ab
namespace Go.Ab
open Go Go.Proofs
/-! ### The specification's own simp(disch:=omega)only[go_sem] to the exponential:sizes and numbers of steps-/
theorem auS(x y:ExV):(x.can.plus y).can=(x.plus y).can:=by
 obtain⟨K,hK⟩:∃K:Nat, -(K:Int)≤x.e∧ -(K:Int)≤y.e:=⟨(max (-x.e) (-y.e)).toNat,by omega,by omega⟩
 exact Jo (yf (jP hK.1) hK.2) (yf hK.1 hK.2) (by rw[zB (jP hK.1) hK.2,zB hK.1 hK.2,z7 hK.1])
theorem ahs:ex0.can=ex0:=aiS ac0
def csN(n:Nat)(l:List ExV)(j:Nat):Nat→ExV
 |0=>ex0
 |k+1=>((csN n l j k).plus (l.getD (k*n+j) ex0).abs).can
def nsN(n:Nat)(l:List ExV):Nat→ExV
 |0=>ex0
 |j+1=>zb (nsN n l j) (csN n l j n)
theorem ahy{n:Nat}{l:List ExV}{j:Nat}:∀k,csN n l j k=(adz n l j k).can
 |0=>ahs.symm
 |k+1=>by
  show((csN n l j k).plus _).can=_
  rw[ahy k,auS,YS]
theorem ag4{n:Nat}{l:List ExV}:∀j,nsN n l j=(q6 n l j).can
 |0=>ahs.symm
 |j+1=>by
  show zb (nsN n l j) _=_
  rw[ag4 j,ahy,aiW,QK];rfl
theorem awL(x:ExV)(hx:(lim x.m).length≤2^39):Con Tryz.prog 151 false [.ag [.v (.bool (x).s),.sl (lim (x).m).length (qg (lim (x).m)),.v (.int .i64 (x).e)]] [] (isA (.ag [.v (.bool (x.abs).s),.sl (lim (x.abs).m).length (qg (lim (x.abs).m)),.v (.int .i64 (x.abs).e)])):=by
 refine Con.frzA ?_
 have c:=qV false x.m hx
 rw[Bool.false_and]at c
 unfold ExV.abs
 refine Con.of_w (rs:=[.cell 2 44]) Tryz.func151 rfl Tryz.ntmps151 rfl ?_
 simp(disch:=omega)only[go_sem]
 refine qv rfl [⟨0,[],[]⟩,⟨1,[],[]⟩,⟨2,[],[]⟩,⟨4,[2],[]⟩,⟨5,[2],[]⟩,⟨3,[5],[]⟩,⟨6,[],[]⟩,⟨7,[],[]⟩] (by kernel_rfl) ?_
 simp(disch:=omega)only[go_sem]
 refine qa (c) ?_
 simp(disch:=omega)only[go_sem]
 exact qu
set_option maxRecDepth 100000 in
theorem XI(n:Nat)(l:List ExV)(hn:n≤4)(hl:l.length=n*n)(hb:gbd (-390000) 390000 l):Con Tryz.prog 93 false [.ag [.v (.int .i64 (n)),.sl (l).length (ql ExV.cs (l))]] [] (isA (.ag [.v (.bool ((q6 n l n).can).s),.sl (lim ((q6 n l n).can).m).length (qg (lim ((q6 n l n).can).m)),.v (.int .i64 ((q6 n l n).can).e)])):=by
 refine Con.frzA ?_
 have hq:=jU hn
 rw[←ag4]
 refine Con.of_w (rs:=[.cell 2 44]) Tryz.func93 rfl Tryz.ntmps93 rfl ?_
 simp(disch:=omega)only[go_sem]
 refine qj (fun j:Nat=>[(1,.pt 1 0),(2,.pt 2 0),(3,.pt 3 0),(4,.v (.int .i64 j))])
  (fun j=>[(1,.own 0 [.v (.int .i64 n),.sl l.length (ql ExV.cs l)]),(2,.own 0 [.v (.bool false),.v (.slice none 0 0),.v (.int .i64 0)]),(3,.own 0 [.v (.bool (nsN n l j).s),.sl (lim (nsN n l j).m).length (qg (lim (nsN n l j).m)),.v (.int .i64 (nsN n l j).e)])]) (fun j=>j≤n) (fun j=>n-j) 0 (by omega)
  ((Le.nilC 50000000 1 (zo:=0) (cs:=[.v (.bool false),.v (.slice none 0 0),.v (.int .i64 0)]) (by simp(disch:=omega)only[go_sem]) rfl).trans (Le.lst [(1,30000000),(2,40000000),(3,50000000)] _ _ rfl (by simp(disch:=omega)only[go_sem]) (by simp(disch:=omega)only[go_sem,List.set_cons_succ,List.set_cons_zero,show nsN n l 0=ex0 from rfl,ex0,qz]))) ?_
 intro j hj
 have hN:(nsN n l j).bd (-390000) 390004:=by
  rw[ag4]
  have:=jE hl hb (by omega) j hj
  exact(QE this (by omega) (by omega)).mono (by omega) (by omega)
 have hNs:nsN n l (j+1)=zb (nsN n l j) (csN n l j n):=rfl
 generalize hNN:nsN n l j=A at*
 simp(disch:=omega)only[go_sem]
 refine qi (fun h1=>?_) (fun h1=>?_)
 ·simp(disch:=omega)only[go_sem,h1]
  refine qj (fun k:Nat=>[(1,.pt 1 0),(2,.pt 2 0),(3,.pt 3 0),(4,.v (.int .i64 j)),(5,.pt 4 0),(6,.v (.int .i64 k))])
   (fun k=>[(1,.own 0 [.v (.int .i64 n),.sl l.length (ql ExV.cs l)]),(2,.own 0 [.v (.bool false),.v (.slice none 0 0),.v (.int .i64 0)]),(3,.own 0 [.v (.bool A.s),.sl (lim A.m).length (qg (lim A.m)),.v (.int .i64 A.e)]),(4,.own 0 [.v (.bool (csN n l j k).s),.sl (lim (csN n l j k).m).length (qg (lim (csN n l j k).m)),.v (.int .i64 (csN n l j k).e)])]) (fun k=>k≤n) (fun k=>n-k) 0 (by omega)
   ((Le.nilC 70000000 1 (zo:=0) (cs:=[.v (.bool false),.v (.slice none 0 0),.v (.int .i64 0)]) (by simp(disch:=omega)only[go_sem]) rfl).trans (Le.lst [(4,70000000)] _ _ rfl (by simp(disch:=omega)only[go_sem]) (by simp(disch:=omega)only[go_sem,List.set_cons_succ,List.set_cons_zero,show csN n l j 0=ex0 from rfl,ex0,qz]))) ?_
  intro k hk
  have hC:(csN n l j k).bd (-390000) 390004:=by
   rw[ahy]
   have:=ah5 (k:=k) (show j<n by omega) hk hl hb (by omega)
   exact(QE this (by omega) (by omega)).mono (by omega) (by omega)
  have hCs:csN n l j (k+1)=((csN n l j k).plus (l.getD (k*n+j) ex0).abs).can:=rfl
  generalize hCC:csN n l j k=D at*
  simp(disch:=omega)only[go_sem]
  refine qi (fun h2=>?_) (fun h2=>?_)
  ·have hx:=zi (show k<n by omega) (show j<n by omega)
   have e1:(k:Int)*(n:Int)+(j:Int)=((k*n+j:Nat):Int):=by rw[Int.natCast_add,Int.natCast_mul]
   have hp1:(k:Int)*(n:Int)≤16∧0≤(k:Int)*(n:Int):=by rw[←Int.natCast_mul];omega
   have g1:=jy (l:=l) (i:=k*n+j) (by omega)
   have b1:=jR hb (show k*n+j<l.length by omega)
   have l1:k*n+j<l.length:=by omega
   generalize l.getD (k*n+j) ex0=x at*
   generalize k*n+j=p at*
   have c1:=awL x (by have:=qE (m:=x.m) (B:=800000) (by have:=b1.2;omega);omega)
   have c2:=yJ D x.abs (hC.mono (by omega) (by omega)) (ExV.abs_bd (b1.mono (by omega) (by omega)))
   rw[←hCs]at c2
   simp(disch:=omega)only[go_sem,h2]
   refine qv rfl [⟨0,[],[]⟩,⟨1,[0],[]⟩,⟨2,[0],[]⟩,⟨3,[0,2],[]⟩,⟨4,[0,2],[]⟩,⟨5,[0,2],[]⟩,⟨6,[0,2],[]⟩,⟨7,[0,2,5],[]⟩,⟨8,[0,2],[]⟩,⟨9,[0],[]⟩,⟨10,[0],[]⟩,⟨11,[0],[]⟩,⟨12,[],[]⟩,⟨13,[],[]⟩] (by kernel_rfl) ?_
   simp(disch:=omega)only[go_sem,e1,g1]
   refine⟨by omega,by omega,?_⟩
   refine qa (c1) ?_
   simp(disch:=omega)only[go_sem]
   refine qa (c2) ?_
   simp(disch:=omega)only[go_sem]
   exact qe (k+1) [] (by show k+1≤_;omega) (by show n-(k+1)<n-k;omega) rfl (by simp(disch:=omega)only[go_sem];try omega) (by simp(disch:=omega)only[go_sem])
  ·obtain rfl:n=k:=by omega
   rw[hCC]at hNs
   have cm:=YG A D (hN.mono (by omega) (by omega)) (hC.mono (by omega) (by omega))
   rw[←hNs]at cm
   simp(disch:=omega)only[go_sem,h2]
   refine qa (cm) ?_
   simp(disch:=omega)only[go_sem]
   exact qe (j+1) [] (by show j+1≤_;omega) (by show n-(j+1)<n-j;omega) rfl (by simp(disch:=omega)only[go_sem];try omega) (by simp(disch:=omega)only[go_sem])
 ·simp(disch:=omega)only[go_sem,h1]
  obtain rfl:n=j:=by omega
  rw[hNN]
  exact qu
end Go.Ab
namespace Go.Ab
open Go Go.Proofs
theorem axv{a:Nat}(h:a≠0)(k:Nat):bl (a*2^k)=bl a+k:=by
 have h1:a<2^bl a:=q9.1 (Nat.le_refl _)
 have h2:a*2^k<2^bl (a*2^k):=q9.1 (Nat.le_refl _)
 have hp:0<2^k:=Nat.pow_pos (by decide)
 have u:bl (a*2^k)≤bl a+k:=q9.2 (by rw[Nat.pow_add];exact Nat.mul_lt_mul_of_pos_right h1 hp)
 have hk:k≤bl (a*2^k):=by
  rcases Nat.lt_or_ge (bl (a*2^k)) k with c|c
  ·have g1:2^bl (a*2^k)≤2^k:=Nat.pow_le_pow_right (by omega) (by omega)
   have g2:1*2^k≤a*2^k:=Nat.mul_le_mul_right _ (by omega)
   omega
  ·exact c
 have l:bl a≤bl (a*2^k)-k:=q9.2 (by
  have e:bl (a*2^k)=(bl (a*2^k)-k)+k:=by omega
  rw[e,Nat.pow_add]at h2
  exact Nat.lt_of_mul_lt_mul_right h2)
 omega
theorem YH(x:ExV)(h:x.bd (-400000) 400000):Con Tryz.prog 94 false [.ag [.v (.bool (x.s)),.sl (lim (x.m)).length (qg (lim (x.m)))],.v (.int .i64 x.e)] [] (isA (.ag [.v (.bool (x.can).s),.sl (lim (x.can).m).length (qg (lim (x.can).m)),.v (.int .i64 (x.can).e)])):=by
 obtain⟨a,b,c⟩:=h
 exact jA x.s x.m x.e (by omega) (by omega)
theorem YJ:Con Tryz.prog 95 false [.v (.int .i64 1)] [] (isA (.ag [.v (.bool (false)),.sl (lim (1)).length (qg (lim (1)))])):=VS 1 (by omega)
def pwE(k:Int):ExV:=⟨false,1,k⟩
theorem agY{k:Int}:(pwE k).can=pwE k:=by
 have h0:oM 1*2^tz 1=1:=Jh
 have h1:oM 1=1:=Nat.eq_one_of_mul_eq_one_right h0
 have h2:2^tz 1=1:=Nat.eq_one_of_mul_eq_one_left h0
 have h3:tz 1=0:=by
  rcases Nat.eq_zero_or_pos (tz 1)with c|c
  ·exact c
  ·have:2^1≤2^tz 1:=Nat.pow_le_pow_right (by omega) c
   omega
 show(⟨oS false 1,oM 1,oE 1 k⟩:ExV)=⟨false,1,k⟩
 have h4:oE 1 k=k:=by
  unfold oE
  rw[if_neg (by decide),h3];omega
 rw[h1,h4];rfl
theorem auK{k lo hi:Int}(h1:lo≤k)(h2:1+k≤hi):(pwE k).bd lo hi:=⟨fun _=>rfl,h1,by show(bl 1:Int)+k≤hi;have:bl 1≤1:=q9.2 (by decide);omega⟩
theorem VR(k:Int)(h: -300000≤k∧k≤300000):Con Tryz.prog 94 false [.ag [.v (.bool (false)),.sl (lim (1)).length (qg (lim (1)))],.v (.int .i64 k)] [] (isA (.ag [.v (.bool (pwE k).s),.sl (lim (pwE k).m).length (qg (lim (pwE k).m)),.v (.int .i64 (pwE k).e)])):=by
 have:=YH (pwE k) (auK (by omega) (by omega))
 rw[agY]at this
 exact this
set_option maxRecDepth 100000 in
theorem aLr(n:Nat)(hn:n≤4):Con Tryz.prog 42 false [.v (.int .i64 n)] [] (isA (.ag [.v (.int .i64 (n)),.sl (gId n).length (ql ExV.cs (gId n))])):=by
 refine Con.frzA ?_
 have hq:=jU hn
 have hg:gId n=dgE n (pwE 0):=by
  rcases(show n=0∨n=1∨n=2∨n=3∨n=4 by omega)with rfl|rfl|rfl|rfl|rfl<;>rfl
 have hgl:(dgE n (pwE 0)).length=n*n:=by show(List.map _ _).length=_;rw[List.length_map,ahw]
 have hz0:ql ocs (dgO n (pwE 0) 0)=zG (n*n) z3:=aJl.symm
 have cp:=VR 0 (by omega)
 rw[hg]
 generalize hy:pwE 0=y at*
 refine Con.of_aw Tryz.func42 rfl Tryz.ntmps42 (by simp) (by simp) (by simp) (W.sound ?_)
 show @W Tryz.prog 23 ⟨_⟩ ⟨fun x σ=>@zl _ _ _ ⟨_⟩ _ ⟨_⟩ x σ⟩ _ _
 simp(disch:=omega)only[go_sem]
 refine qF (adg n hn) (by simp(disch:=omega)only[go_sem]) ?_
 rintro r hs ⟨rfl,rfl⟩
 refine⟨by simp[qL];simp(disch:=omega)only[go_sem],?_⟩
 simp(disch:=omega)only[go_sem]
 refine qj (fun i:Nat=>[(0,.v (.int .i64 n)),(2,.pt 2 0),(3,.pt 3 0),(4,.v (.int .i64 i))])
  (fun i=>[(1,.own 3 (ql ocs (dgO n y i))),(2,.own 0 [.v (.int .i64 0),.v (.slice none 0 0)]),(3,.own 0 [.v (.int .i64 n),.rf 1 0 (n*n)])]) (fun i=>i≤n) (fun i=>n-i) 0 (by omega)
  (Le.lst [(1,80000000),(2,40000000),(3,50000000)] _ _ rfl (by simp(disch:=omega)only[go_sem]) (by simp(disch:=omega)only[go_sem,hz0];try rfl)) ?_
 intro i hi
 simp(disch:=omega)only[go_sem]
 refine qi (fun c1=>?_) (fun c1=>?_)
 ·have hi2:i<n:=by omega
  have hx:=zi hi2 hi2
  have hl:=@ahw n i y
  have hset:=aTq (l:=dgO n y i) (i:=i*n+i) (x:=y) (by omega)
  have e1:(i:Int)*n+i=((i*n+i:Nat):Int):=by rw[Int.natCast_add,Int.natCast_mul]
  have hp1:(i:Int)*(n:Int)≤16∧0≤(i:Int)*(n:Int):=by
   have:i*n≤n*n:=Nat.mul_le_mul_right _ (by omega)
   rw[←Int.natCast_mul];omega
  simp(disch:=omega)only[go_sem,c1]
  refine qv rfl [⟨0,[],[]⟩,⟨1,[],[]⟩,⟨2,[1],[]⟩,⟨3,[1],[]⟩,⟨4,[1],[]⟩,⟨5,[1],[]⟩,⟨6,[1],[]⟩,⟨7,[1],[]⟩,⟨8,[1],[]⟩,⟨9,[],[]⟩,⟨10,[],[]⟩] (by kernel_rfl) ?_
  simp(disch:=omega)only[go_sem,e1]
  refine qa (YJ) ?_
  simp(disch:=omega)only[go_sem]
  refine qa (cp) ?_
  simp(disch:=omega)only[go_sem]
  rw[hset]
  exact⟨⟨by omega,by omega⟩,by rw[hl];omega,qe (i+1) [] (by show i+1≤n;omega) (by show n-(i+1)<n-i;omega) rfl (by simp(disch:=omega)only[go_sem];try omega) (by simp(disch:=omega)only[go_sem,dgO])⟩
 ·simp(disch:=omega)only[go_sem,c1]
  obtain rfl:i=n:=by omega
  have hcut:cut (ql ocs (dgO i y i)) 0 (i*i*3)=ql ocs (dgO i y i):=by
   unfold cut
   rw[List.drop_zero,List.take_of_length_le (by rw[auV,ahw];exact Nat.le_refl _)]
  refine qm [(0,1)] [.own 3 (ql ocs (dgO i y i))] [] [.ag [.v (.int .i64 i),.rf 0 0 (i*i)]] rfl (by simp(disch:=omega)only[go_sem]) (by simp(disch:=omega)only[go_sem]) (by simp) (by simp) ?_
  show qK _ 6 _=_
  rw[hgl]
  simp(disch:=omega)only[go_sem,qY,hcut,aJm]
  rfl
theorem XQ(n:Nat)(L:List ExV)(hn:n≤4)(hl:L.length=n*n):Con Tryz.prog 133 false [.ag [.v (.int .i64 (n)),.sl (L).length (ql ExV.cs (L))]] [] (isA (.ag [.v (.int .i64 (n)),.sl (L.map ptS).length (ql SpV.cs (L.map ptS))])):=by
 refine Con.frzA ((aw0 n L hn hl).mono ?_)
 rintro r hs bs ⟨rfl,rfl⟩
 show qK _ 6 _=_
 have e:n*n=(L.map ptS).length:=by rw[List.length_map,hl]
 rw[e]
 have hcut:cut (ql SpV.cs (L.map ptS)) 0 ((L.map ptS).length*6)=ql SpV.cs (L.map ptS):=by
  unfold cut
  rw[List.drop_zero,List.take_of_length_le (by rw[yc];exact Nat.le_refl _)]
 simp(disch:=omega)only[go_sem,qY,hcut,aiv]
theorem ahS(n:Nat)(hn:n≤402)(h1:1≤n):Con Tryz.prog 209 false [.v (.int .i64 n)] [] (isA (.ag [.sl (lim (fct n)).length (qg (lim (fct n)))])):=by
 refine Con.frzA ?_
 have c1:Con Tryz.prog 180 false [.v (.int .i64 1)] [] (isA (.ag [.sl (lim (fct 1)).length (qg (lim (fct 1)))])):=zF 1 (by omega)
 refine Con.of_w (rs:=[.cell 2 40]) Tryz.func209 rfl Tryz.ntmps209 rfl ?_
 simp(disch:=omega)only[go_sem]
 refine qa (c1) ?_
 simp(disch:=omega)only[go_sem]
 refine qj (fun k:Nat=>[(0,.v (.int .i64 n)),(2,.pt 2 0),(3,.pt 3 0),(4,.v (.int .i64 ((k:Int)+1)))]) (fun k=>[(2,.own 0 [.v (.slice none 0 0)]),(3,.own 0 [.sl (lim (fct k)).length (qg (lim (fct k)))])]) (fun k=>1≤k∧k≤n) (fun k=>n-k) 1 (by omega)
  (Le.lst [(2,40000000),(3,50000000)] _ _ rfl (by simp(disch:=omega)only[go_sem,show((1:Nat):Int)+1=2 from rfl,show(1:Int)+1=2 from rfl]) (by simp(disch:=omega)only[go_sem])) ?_
 rintro k ⟨hk1,hk⟩
 have b1:=acW k (by omega)
 have l1:=qE b1
 have l2:=qE (m:=k+1) (B:=9) (q9.2 (by omega))
 have e1:(k:Int)+1=((k+1:Nat):Int):=by omega
 have e2:fct k*(k+1)=fct (k+1):=Nat.mul_comm _ _
 have cs:=zF (k+1) (by omega)
 rw[←e1]at cs
 have cm:=j8 (fct k) (k+1) (by omega) (by omega)
 rw[e2]at cm
 generalize hK:fct k=FK at*
 generalize hK1:fct (k+1)=FK1 at*
 simp(disch:=omega)only[go_sem]
 refine qi (fun h2=>?_) (fun h2=>?_)
 ·simp(disch:=omega)only[go_sem,h2]
  refine qv rfl [⟨0,[],[]⟩,⟨1,[0],[]⟩,⟨2,[0],[]⟩,⟨3,[],[]⟩,⟨4,[],[]⟩] (by kernel_rfl) ?_
  simp(disch:=omega)only[go_sem]
  refine qa (cs) ?_
  simp(disch:=omega)only[go_sem]
  refine qa (cm) ?_
  simp(disch:=omega)only[go_sem]
  exact qe (k+1) [] ⟨by omega,by omega⟩ (by show n-(k+1)<n-k;omega) rfl (by simp(disch:=omega)only[go_sem];try omega) (by simp(disch:=omega)only[go_sem,hK1])
 ·simp(disch:=omega)only[go_sem,h2]
  obtain rfl:n=k:=by omega
  rw[hK]
  exact qu
theorem adn(B:Nat)(hW:B≤400):Con Tryz.prog 134 false [.v (.int .i64 (-(B:Int)))] [] (isA (.v (.int .i64 (tmF B)))):=by
 refine Con.frzA ?_
 refine Con.of_w (rs:=[.tmp 2]) Tryz.func134 rfl Tryz.ntmps134 rfl ?_
 simp(disch:=omega)only[go_sem]
 refine qj (fun k:Nat=>[(0,.v (.int .i64 (-(B:Int)))),(2,.v (.int .i64 0)),(3,.v (.int .i64 k))]) (fun _=>[]) (fun k=>1≤k∧k≤401∧tmS B k (403-k)=tmF B) (fun k=>402-k) 1 ⟨by omega,by omega,rfl⟩ (Le.lst [] _ _ rfl (by simp(disch:=omega)only[go_sem]) (by simp(disch:=omega)only[go_sem])) ?_
 rintro k ⟨hk1,hk2,ht⟩
 have e1:(k:Int)+1=((k+1:Nat):Int):=by omega
 have e2:0-(-(B:Int))=(B:Int):=by omega
 have cf:=ahS (k+1) (by omega) (by omega)
 rw[←e1]at cf
 have b1:=acW (k+1) (by omega)
 have l1:=qE b1
 have cb:=XN (fct (k+1)) (by omega)
 have hstep:tmS B k (403-k)=if fct (k+1)*2^k<2^B then tmS B (k+1) (403-(k+1))else k:=by
  rw[show 403-k=(403-(k+1))+1 by omega];rfl
 have hpos:=ahn (k+1)
 have hb:=axv (a:=fct (k+1)) (by omega) k
 have hiff:fct (k+1)*2^k<2^B↔bl (fct (k+1))+k≤B:=by rw[←hb];exact q9.symm
 have hb1:1≤bl (fct (k+1)):=by
  rcases Nat.lt_or_ge (bl (fct (k+1))) 1 with c|c
  ·have:=q9.1 (show bl (fct (k+1))≤0 by omega)
   omega
  ·exact c
 generalize fct (k+1)=FF at*
 generalize bl FF=b at*
 simp(disch:=omega)only[go_sem]
 refine qa (cf) ?_
 simp(disch:=omega)only[go_sem]
 refine qn (cb) ?_
 simp(disch:=omega)only[go_sem]
 refine qi (fun h1=>?_) (fun h1=>?_)
 ·simp(disch:=omega)only[go_sem,h1]
  have hlt:FF*2^k<2^B:=hiff.2 (by omega)
  rw[if_pos hlt,ht]at hstep
  exact qe (k+1) [] ⟨by omega,by omega,hstep.symm⟩ (by show 402-(k+1)<402-k;omega) rfl (by simp(disch:=omega)only[go_sem];try omega) (by simp(disch:=omega)only[go_sem])
 ·simp(disch:=omega)only[go_sem,h1]
  have hlt:¬FF*2^k<2^B:=fun h=>h1 (by have:=hiff.1 h;omega)
  rw[if_neg hlt,ht]at hstep
  rw[hstep]
  exact qu
theorem aN2(y:ExV)(h0:y.m≠0):y.can.top=y.top∧y.can.m≠0:=by
 have e1:y.can.m*2^tz y.m=y.m:=Jh
 have e2:y.can.e=y.e+tz y.m:=by show oE y.m y.e=_;unfold oE;rw[if_neg h0]
 have h1:y.can.m≠0:=fun e=>by rw[e,Nat.zero_mul]at e1;exact h0 e1.symm
 refine⟨?_,h1⟩
 have:=axv h1 (tz y.m)
 rw[e1]at this
 unfold ExV.top
 rw[if_neg h0,if_neg h1]
 omega
theorem aZJ(y:ExV):hvN y.can=hvN y:=by
 unfold hvN
 by_cases h0:y.m=0
 ·rw[if_pos h0,if_pos (show y.can.m=0 by show oM y.m=0;rw[h0,jv])]
 ·obtain⟨e,h1⟩:=aN2 y h0
  rw[if_neg h0,if_neg h1,e]
theorem VT(y:ExV)(hy:y.bd (-400000) 400000):Con Tryz.prog 132 false [.ag [.v (.bool (y).s),.sl (lim (y).m).length (qg (lim (y).m)),.v (.int .i64 (y).e)]] [] (isA (.v (.int .i64 (hvN y)))):=by
 refine Con.frzA ?_
 obtain⟨a,b,c⟩:=hy
 have lm:=qE (m:=y.m) (B:=800000) (by omega)
 have ct:=awN y.s y.m y.e (by omega) (by omega)
 by_cases h0:y.m=0
 ·have hv:hvN y=0:=if_pos h0
  rw[if_pos h0]at ct
  rw[hv]
  have hl:(lim y.m).length=0:=by rw[h0,qz];rfl
  refine Con.of_w (rs:=[.tmp 2]) Tryz.func132 rfl Tryz.ntmps132 rfl ?_
  simp(disch:=omega)only[go_sem]
  refine qn (ct) ?_
  simp(disch:=omega)only[go_sem]
  simp(disch:=omega)only[go_sem,show decide ((0:Int)+1<0)=false from rfl]
  simp(disch:=omega)only[go_sem,hl]
  exact qu
 ·have hv:hvN y=(y.top+1).toNat:=if_neg h0
  rw[if_neg h0]at ct
  have et:y.top=y.e+(bl y.m:Int):=by unfold ExV.top;rw[if_neg h0];omega
  rw[←et]at ct
  have hl:(lim y.m).length≠0:=fun e=>h0 (qM.1 (List.length_eq_zero_iff.1 e))
  rw[hv]
  generalize y.top=t at*
  by_cases c1:t+1<0
  ·rw[show(t+1).toNat=0 by omega]
   refine Con.of_w (rs:=[.tmp 2]) Tryz.func132 rfl Tryz.ntmps132 rfl ?_
   simp(disch:=omega)only[go_sem]
   refine qn (ct) ?_
   simp(disch:=omega)only[go_sem]
   simp(disch:=omega)only[go_sem,decide_eq_true c1]
   exact qu
  ·refine Con.of_w (rs:=[.tmp 2]) Tryz.func132 rfl Tryz.ntmps132 rfl ?_
   simp(disch:=omega)only[go_sem]
   refine qn (ct) ?_
   simp(disch:=omega)only[go_sem]
   have q2:decide (((lim y.m).length:Int)=0)=false:=decide_eq_false (by omega)
   simp(disch:=omega)only[go_sem,decide_eq_false c1,q2]
   exact qu (hp:=by simp(disch:=omega)only[go_sem,show(((t+1).toNat:Nat):Int)=t+1 by omega])
end Go.Ab
namespace Go.Ab
open Go Go.Proofs
/-! ### The specification's exponential,held-/
def aIQ(K:Nat)(s:SpV):Prop:=s.eK K∧s.lo.val K≤s.hi.val K
theorem auk{K:Nat}:aIQ K sp0:=⟨⟨by show-(K:Int)≤0;omega,by show-(K:Int)≤0;omega⟩,Int.le_refl _⟩
theorem anX{K:Nat}{s t:SpV}(hs:s.eK K)(ht:t.eK K):aIQ (K+K) (s.times t):=by
 have h:=SpV.times_eK hs ht
 refine⟨h,?_⟩
 have e:=Go.Ab.times_eK hs ht
 have a:=(yA e).1 (s.lo.times t.lo) (by simp[qG])
 have b:=(Qr e).1 (s.lo.times t.lo) (by simp[qG])
 exact Int.le_trans a b
theorem auy{K:Nat}{s t:SpV}(hs:aIQ K s)(ht:aIQ K t):aIQ K (s.plus t):=by
 obtain⟨⟨a1,a2⟩,a3⟩:=hs
 obtain⟨⟨b1,b2⟩,b3⟩:=ht
 refine⟨⟨yf a1 b1,yf a2 b2⟩,?_⟩
 show(s.lo.plus t.lo).val K≤(s.hi.plus t.hi).val K
 rw[zB a1 b1,zB a2 b2]
 omega
def seK(K:Nat)(l:List SpV):Prop:=∀s∈l,s.eK K
theorem aut{K:Nat}{l:List SpV}(h:seK K l)(i:Nat):(l.getD i sp0).eK K:=by
 rw[List.getD_eq_getElem?_getD]
 rcases Nat.lt_or_ge i l.length with c|c
 ·rw[List.getElem?_eq_getElem c];exact h _ (List.getElem_mem _)
 ·rw[List.getElem?_eq_none c];exact auk.1
theorem aiD{K n:Nat}{l l':List SpV}{i j:Nat}(h:seK K l)(h':seK K l'):∀k,aIQ (K+K) (js n l l' i j k)
 |0=>auk
 |k+1=>by rw[yw];exact auy (aiD h h' k) (anX (aut h _) (aut h' _))
theorem aon{K n:Nat}{l l':List SpV}(h:seK K l)(h':seK K l'):∀s∈qP n l l',aIQ (K+K) s:=fun s hs=>by
 obtain⟨t, -,rfl⟩:=List.mem_map.1 hs
 exact aiD h h' n
theorem aM7{lo hi:Int}{K:Nat}{l:List SpV}(h:sbd lo hi l)(hK: -(K:Int)≤lo):seK K l:=fun s hs=>⟨by have:=(h s hs).1.2.1;omega,by have:=(h s hs).2.2.1;omega⟩
theorem aVG{K k:Nat}{l:List SpV}{low:Int}(hk:k≠0)(hl: -(K:Int)≤low)(h:∀s∈l,aIQ K s):(l.map SpV.can).map (fun s=>SpV.mk (s.lo.over (exN k) low 3).can (s.hi.over (exN k) low 2).can)=(l.map fun s=>s.divd k low).map SpV.can:=by
 rw[List.map_map,List.map_map]
 exact List.map_congr_left fun s hs=>aK6 hk hl (h s hs).1 (h s hs).2
theorem aiQ{l:List SpV}{low:Int}:(l.map SpV.can).map (fun s=>(s.out low).can)=(l.map fun s=>s.out low).map SpV.can:=by
 rw[List.map_map,List.map_map]
 exact List.map_congr_left fun s _=>aTg s low
theorem aKU{l:List SpV}{y:ExV}:(l.map SpV.can).map (fun s=>(s.fat y.can).can)=(l.map fun s=>s.fat y).map SpV.can:=by
 rw[List.map_map,List.map_map]
 exact List.map_congr_left fun s _=>aVs s y
theorem auP{l:List ExV}:(l.map ExV.can).map ptS=(l.map ptS).map SpV.can:=by
 rw[List.map_map,List.map_map]
 exact List.map_congr_left fun s _=>rfl
theorem X6(k:Int):ex1.shift k=pwE k:=by
 show(⟨false,1,0+k⟩:ExV)=⟨false,1,k⟩
 rw[Int.zero_add]
theorem anV{n:Nat}{L:List ExV}{y:ExV}(hl:L.length=n*n):L.map (fun x=>(x.times y).can)=(zv n L y).map ExV.can:=by
 have e:zv n L y=L.map fun x=>x.times y:=by
  have a:L.map (fun x=>x.times y)=mpT L (fun x=>x.times y) (n*n):=by rw[←hl];exact yh.symm
  rw[a]
  unfold zv gl mpT
  have et:∀t,t/n*n+t % n=t:=fun t=>by rw[Nat.mul_comm];exact Nat.div_add_mod t n
  apply List.ext_getElem
  ·simp[hl]
  ·intro i h1 h2
   simp only[List.length_map,List.length_range]at h1
   simp[et,List.getD_eq_getElem?_getD,List.getElem?_eq_getElem (show i<L.length by omega)]
 rw[e,List.map_map]
 rfl
theorem aZI{n:Nat}:gId n=(gId n).map ExV.can:=by
 conv=>lhs;rw[←List.map_id (gId n)]
 refine List.map_congr_left fun x hx=>?_
 obtain⟨t, -,rfl⟩:=List.mem_map.1 hx
 show _=(idF _ _).can
 unfold idF
 split
 ·exact(agY (k:=0)).symm
 ·exact ahs.symm
theorem aR8{l:List SpV}:∀s∈l.map SpV.can,s.lo.can=s.lo∧s.hi.can=s.hi:=fun s hs=>by
 obtain⟨t, -,rfl⟩:=List.mem_map.1 hs
 exact⟨V3 _,V3 _⟩
theorem yO{lo hi:Int}{l:List SpV}(h:sbd lo hi l)(h1:lo≤0)(h2:0≤hi):sbd lo hi (l.map SpV.can):=fun s hs=>by
 obtain⟨t,ht,rfl⟩:=List.mem_map.1 hs
 exact acf (h t ht) h1 h2
theorem ja{l:List SpV}{k:Nat}(h:l.length=k):(l.map SpV.can).length=k:=by rw[List.length_map,h]
set_option maxRecDepth 100000 in
theorem ahQ(n:Nat)(L:List ExV)(low:Int)(h:matV n L)(ha:api n L low=true):Con Tryz.prog 64 false [.ag [.v (.int .i64 (n)),.sl (L).length (ql ExV.cs (L))],.v (.int .i64 low)] [] (isA (.ag [.v (.int .i64 (n)),.sl ((gSq n (-(JB n L low:Int)) (gFt n (gB n L (exS n L)) (JB n L low)) (exS n L)).map SpV.can).length (ql SpV.cs ((gSq n (-(JB n L low:Int)) (gFt n (gB n L (exS n L)) (JB n L low)) (exS n L)).map SpV.can))])):=by
 refine Con.frzA ?_
 have f:=QH h ha
 have hn:=h.n4
 have hL:=h.len
 have hq:=jU hn
 have cn:=XI n L hn hL (ym h.bd (by omega) (by omega))
 have byd:=QE (jE hL h.bd (by omega) n (Nat.le_refl n)) (by omega) (by omega)
 have ch:=VT (q6 n L n).can (byd.mono (by omega) (by omega))
 rw[aZJ]at ch
 change Con _ _ _ _ _ (isA (.v (.int .i64 (exS n L))))at ch
 obtain⟨f1,f2,f3,f4,f5, -⟩:=f
 have f5':=f5
 generalize hs:exS n L=s at*
 generalize hB':JB n L low=B at*
 have cpw:=VR (-(s:Int)) (by omega)
 have csc:=ahM n L (pwE (-(s:Int))) hn hL (ym h.bd (by omega) (by omega)) (auK (by omega) (by omega))
 have hbl:(gB n L s).length=n*n:=by show(List.map _ _).length=n*n;rw[List.length_map];exact jS
 rw[←X6,anV hL]at csc
 have hsl:((zv n L (ex1.shift (-(s:Int)))).map ExV.can).length=n*n:=by rw[List.length_map];exact jS
 have cof:=XQ n ((zv n L (ex1.shift (-(s:Int)))).map ExV.can) hn hsl
 rw[auP]at cof
 change Con _ _ _ _ _ (isA (.ag [.v (.int .i64 (n)),.sl ((gB n L s).map SpV.can).length (ql SpV.cs ((gB n L s).map SpV.can))]))at cof
 rw[X6]at csc cof
 have ci:=aLr n hn
 have coi:=XQ n (gId n) hn Yt
 have hst0:(gId n).map ptS=(gSt n (gB n L s) (-(B:Int)) 0).1.map SpV.can:=by
  show(gId n).map ptS=((gId n).map ptS).map SpV.can
  rw[←auP,←aZI]
 have hst00:(gSt n (gB n L s) (-(B:Int)) 0).2=(gSt n (gB n L s) (-(B:Int)) 0).1:=rfl
 rw[hst0]at coi
 have ct:=adn B (by omega)
 have cpw2:=VR (-(B:Int)) (by omega)
 have hSb:=acN hn (show 1≤B by omega) hbl f5
 have hSl:=fun i=>zL (n:=n) (b:=gB n L s) (w:= -(B:Int)) i
 have htm:=apw f3.2
 have hFl:(gFt n (gB n L s) B).length=n*n:=by show(List.map _ _).length=n*n;rw[List.length_map];exact(zL _).1
 have cft:=aoL n ((gSt n (gB n L s) (-(B:Int)) (tmF B)).1.map SpV.can) (pwE (-(B:Int))) hn (ja (hSl _).1) (yO (qH (hSb (tmF B)).1 (by omega) (by omega)) (by omega) (by omega)) (auK (by omega) (by omega))
 have efat:((gSt n (gB n L s) (-(B:Int)) (tmF B)).1.map SpV.can).map (fun x=>(x.fat (pwE (-(B:Int)))).can)=(gFt n (gB n L s) B).map SpV.can:=by
  have:=aKU (l:=(gSt n (gB n L s) (-(B:Int)) (tmF B)).1) (y:=pwE (-(B:Int)))
  rw[agY]at this
  rw[this]
  unfold gFt
  rw[X6]
 rw[efat]at cft
 obtain⟨q1,q2⟩:=pw8 f2 f3.2
 have hFb:=acO hn (show 1≤B∧B≤148 by omega) hbl f5
 have hQb:=Xx hn (show 1≤B by omega) hFl hFb
 have hQl:=fun k=>y5 (w:= -(B:Int)) hFl k
 have hSs:∀i,(gSt n (gB n L s) (-(B:Int)) (i+1)).1=yD (gSt n (gB n L s) (-(B:Int)) i).1 (gSt n (gB n L s) (-(B:Int)) (i+1)).2:=fun _=>rfl
 have hSs2:∀i,(gSt n (gB n L s) (-(B:Int)) (i+1)).2=(qP n (gSt n (gB n L s) (-(B:Int)) i).2 (gB n L s)).map fun x=>x.divd (i+1) (-(B:Int)):=fun _=>rfl
 have hQ0:gSq n (-(B:Int)) (gFt n (gB n L s) B) 0=gFt n (gB n L s) B:=rfl
 have hQs:∀k,gSq n (-(B:Int)) (gFt n (gB n L s) B) (k+1)=(qP n (gSq n (-(B:Int)) (gFt n (gB n L s) B) k) (gSq n (-(B:Int)) (gFt n (gB n L s) B) k)).map fun x=>x.out (-(B:Int)):=fun _=>rfl
 generalize hF0:gFt n (gB n L s) B=F0 at*
 generalize gB n L s=b at*
 generalize (zv n L (pwE (-(s:Int)))).map ExV.can=G at*
 generalize gId n=I at*
 generalize (q6 n L n).can=Y at*
 generalize pwE (-(s:Int))=y1 at*
 generalize pwE (-(B:Int))=y2 at*
 refine Con.of_w (rs:=[.cell 4 53]) Tryz.func64 rfl Tryz.ntmps64 rfl ?_
 simp(disch:=omega)only[go_sem]
 refine qa (cn) ?_
 simp(disch:=omega)only[go_sem]
 refine qa (ch) ?_
 simp(disch:=omega)only[go_sem]
 rw[show low-2*(s:Int)-12= -(B:Int) from f4]
 refine qv rfl [⟨0,[],[]⟩,⟨2,[0],[]⟩,⟨3,[0],[]⟩,⟨7,[0],[]⟩,⟨1,[0],[90000000]⟩,⟨4,[0],[90000000]⟩,⟨5,[],[90000000]⟩,⟨6,[],[90000000]⟩,⟨8,[],[]⟩] (by kernel_rfl) ?_
 simp(disch:=omega)only[go_sem]
 refine qa (YJ) ?_
 simp(disch:=omega)only[go_sem]
 refine qa (cpw) ?_ (by simp(disch:=omega)only[go_sem,show(0-(s:Int))= -(s:Int) by omega])
 simp(disch:=omega)only[go_sem]
 refine qa (csc) ?_
 simp(disch:=omega)only[go_sem]
 refine qa (cof) ?_
 simp(disch:=omega)only[go_sem]
 refine qa (ci) ?_
 simp(disch:=omega)only[go_sem]
 refine qa (coi) ?_
 simp(disch:=omega)only[go_sem]
 refine qa (ct) ?_
 simp(disch:=omega)only[go_sem]
 have hbc:sbd (-3100) 0 (b.map SpV.can):=yO f5 (by omega) (by omega)
 refine qj (fun i:Nat=>[(1,.v (.int .i64 low)),(4,.pt 1 0),(5,.v (.int .i64 s)),(6,.v (.int .i64 (-(B:Int)))),(7,.pt 2 0),(8,.pt 3 0),(9,.pt 4 0),(10,.v (.int .i64 (tmF B))),(11,.v (.int .i64 ((i:Int)+1)))])
  (fun i=>[(1,.own 0 [.v (.int .i64 0),.v (.slice none 0 0)]),(2,.own 0 [.v (.int .i64 n),.sl (b.map SpV.can).length (ql SpV.cs (b.map SpV.can))]),(3,.own 0 [.v (.int .i64 n),.sl ((gSt n b (-(B:Int)) i).1.map SpV.can).length (ql SpV.cs ((gSt n b (-(B:Int)) i).1.map SpV.can))]),(4,.own 0 [.v (.int .i64 n),.sl ((gSt n b (-(B:Int)) i).2.map SpV.can).length (ql SpV.cs ((gSt n b (-(B:Int)) i).2.map SpV.can))])])
  (fun i=>i≤tmF B) (fun i=>tmF B-i) 0 (by omega)
  (Le.lst [(1,60000000),(2,90000000),(3,100000000),(4,110000000)] _ _ rfl (by simp(disch:=omega)only[go_sem,show(0:Int)+1=1 from rfl]) (by simp(disch:=omega)only[go_sem,hst00])) ?_
 intro i hi
 obtain⟨b1,b2,b3⟩:=hSb i
 obtain⟨l1,l2⟩:=hSl i
 have ei:(i:Int)+1=((i+1:Nat):Int):=by omega
 have cT:=XR n ((gSt n b (-(B:Int)) i).2.map SpV.can) (b.map SpV.can) hn (ja l2) (ja hbl) (yO (qH b2 (by omega) (by omega)) (by omega) (by omega)) (qH hbc (by omega) (by omega))
 rw[auv]at cT
 have hTl:(qP n (gSt n b (-(B:Int)) i).2 b).length=n*n:=zS
 have cD:=aoM n ((qP n (gSt n b (-(B:Int)) i).2 b).map SpV.can) (i+1) (-(B:Int)) hn (ja hTl) (by omega) (by omega) aR8 (yO (qH b3 (by omega) (by omega)) (by omega) (by omega)) (by omega)
 have hord:∀x∈qP n (gSt n b (-(B:Int)) i).2 b,aIQ (4000+4000) x:=aon (aM7 b2 (by omega)) (aM7 f5 (by omega))
 rw[aVG (by omega) (by omega) hord,←ei,←hSs2 i]at cD
 simp(disch:=omega)only[go_sem]
 refine qi (fun h2=>?_) (fun h2=>?_)
 ·have b4:=(hSb (i+1)).2.1
  have cP:=aoN n ((gSt n b (-(B:Int)) i).1.map SpV.can) ((gSt n b (-(B:Int)) (i+1)).2.map SpV.can) hn (ja l1) (ja (hSl (i+1)).2) (yO (qH b1 (by omega) (by omega)) (by omega) (by omega)) (yO (qH b4 (by omega) (by omega)) (by omega) (by omega))
  rw[aWV l1.symm,←hSs i]at cP
  generalize qP n (gSt n b (-(B:Int)) i).2 b=T at*
  generalize hS2:(gSt n b (-(B:Int)) (i+1)).2=S2 at*
  generalize hS1:(gSt n b (-(B:Int)) (i+1)).1=S1 at*
  simp(disch:=omega)only[go_sem,h2]
  refine qa (cT) ?_
  simp(disch:=omega)only[go_sem]
  refine qa (cD) ?_
  simp(disch:=omega)only[go_sem]
  refine qa (cP) ?_
  simp(disch:=omega)only[go_sem]
  exact qe (i+1) [] (by show i+1≤tmF B;omega) (by show tmF B-(i+1)<tmF B-i;omega) rfl (by simp(disch:=omega)only[go_sem];try omega) (by simp(disch:=omega)only[go_sem,hS1,hS2])
 ·obtain rfl:i=tmF B:=by omega
  simp(disch:=omega)only[go_sem,h2]
  refine qv rfl [⟨0,[],[]⟩,⟨2,[0],[]⟩,⟨1,[0],[]⟩,⟨3,[0],[]⟩,⟨4,[],[]⟩,⟨5,[],[]⟩] (by kernel_rfl) ?_
  simp(disch:=omega)only[go_sem]
  refine qa (YJ) ?_
  simp(disch:=omega)only[go_sem]
  refine qa (cpw2) ?_
  simp(disch:=omega)only[go_sem]
  refine qa (cft) ?_
  simp(disch:=omega)only[go_sem]
  refine qj (fun k:Nat=>[(4,.pt 1 0),(5,.v (.int .i64 s)),(6,.v (.int .i64 (-(B:Int)))),(8,.pt 3 0),(12,.v (.int .i64 k))])
   (fun k=>[(1,.own 0 [.v (.int .i64 0),.v (.slice none 0 0)]),(3,.own 0 [.v (.int .i64 n),.sl ((gSq n (-(B:Int)) F0 k).map SpV.can).length (ql SpV.cs ((gSq n (-(B:Int)) F0 k).map SpV.can))])]) (fun k=>k≤s) (fun k=>s-k) 0 (by omega) (Le.lst [] _ _ rfl (by simp(disch:=omega)only[go_sem]) (by simp(disch:=omega)only[go_sem,hQ0])) ?_
  intro k hk
  obtain⟨c1,c2⟩:=hQb k
  have lk:=hQl k
  have q3:=pw8 (s:=k) (B:=B) (by omega) f3.2
  simp(disch:=omega)only[go_sem]
  refine qi (fun h3=>?_) (fun h3=>?_)
  ·have q4:=pw8 (s:=k+1) (B:=B) (by omega) f3.2
   have g1:=yO (qH c1 (show(-190000:Int)≤_ by omega) (show _≤(190000:Int) by omega)) (by omega) (by omega)
   have cS:=XR n ((gSq n (-(B:Int)) F0 k).map SpV.can) ((gSq n (-(B:Int)) F0 k).map SpV.can) hn (ja lk) (ja lk) g1 g1
   rw[auv]at cS
   have hTl2:(qP n (gSq n (-(B:Int)) F0 k) (gSq n (-(B:Int)) F0 k)).length=n*n:=zS
   have cO:=XP n ((qP n (gSq n (-(B:Int)) F0 k) (gSq n (-(B:Int)) F0 k)).map SpV.can) (-(B:Int)) hn (ja hTl2) aR8 (yO (qH c2 (by omega) (by omega)) (by omega) (by omega)) (by omega)
   rw[aiQ,←hQs k]at cO
   generalize qP n (gSq n (-(B:Int)) F0 k) (gSq n (-(B:Int)) F0 k)=T2 at*
   generalize hK1:gSq n (-(B:Int)) F0 (k+1)=K1 at*
   generalize gSq n (-(B:Int)) F0 k=K0 at*
   simp(disch:=omega)only[go_sem,h3]
   refine qa (cS) ?_
   simp(disch:=omega)only[go_sem]
   refine qa (cO) ?_
   simp(disch:=omega)only[go_sem]
   exact qe (k+1) [] (by show k+1≤s;omega) (by show s-(k+1)<s-k;omega) rfl (by simp(disch:=omega)only[go_sem];try omega) (by simp(disch:=omega)only[go_sem,hK1])
  ·obtain rfl:k=s:=by omega
   simp(disch:=omega)only[go_sem,h3]
   exact qu
end Go.Ab
namespace Go.Ab
open Go Go.Proofs
/-! ### The specification's exponential of a matrix and of a number-/
theorem ahR(low:Int):Con Tryz.prog 91 true [.v (.int .i64 low)] [] (isA (.v (.bool (decide (-120≤low)&&decide (low≤0))))):=by
 by_cases h1: -120≤low
 ·rw[decide_eq_true h1,Bool.true_and]
  refine Con.of_w (rs:=[.tmp 2]) Tryz.func91 rfl Tryz.ntmps91 rfl ?_
  simp(disch:=omega)only[go_sem,h1]
  exact qy
 ·rw[decide_eq_false h1,Bool.false_and]
  refine Con.of_w (rs:=[.tmp 2]) Tryz.func91 rfl Tryz.ntmps91 rfl ?_
  simp(disch:=omega)only[go_sem,h1]
  exact qy
theorem XO(n:Nat)(L:List ExV)(low:Int)(h:matV n L):Con Tryz.prog 40 false [.ag [.v (.int .i64 (n)),.sl (L).length (ql ExV.cs (L))],.v (.int .i64 low)] [] (isA (.v (.bool (api n L low)))):=by
 refine Con.frzA ?_
 have cw:=ahR low
 have cm:=ah2 n L h
 have cn:=XI n L h.n4 h.len (ym h.bd (by omega) (by omega))
 have bN:=jE h.len h.bd (by omega) n (Nat.le_refl n)
 have h4:=h.n4
 have bX:(exN 64).bd (-400000) 400000:=(awe (by decide)).mono (by omega) (by omega)
 have cc:=Z8 (q6 n L n).can (exN 64).can ((QE bN (by omega) (by omega)).mono (by omega) (by omega)) (QE bX (by omega) (by omega))
 rw[ah7]at cc
 have c3:Con Tryz.prog 95 false [.v (.int .i64 64)] [] (isA (.ag [.v (.bool (false)),.sl (lim (64)).length (qg (lim (64)))])):=VS 64 (by omega)
 have c4:Con Tryz.prog 94 false [.ag [.v (.bool (false)),.sl (lim (64)).length (qg (lim (64)))],.v (.int .i64 0)] [] (isA (.ag [.v (.bool ((exN 64).can).s),.sl (lim ((exN 64).can).m).length (qg (lim ((exN 64).can).m)),.v (.int .i64 ((exN 64).can).e)])):=YH (exN 64) bX
 unfold api
 generalize (q6 n L n).cmp (exN 64)=C at*
 generalize (q6 n L n).can=y at*
 generalize (exN 64).can=z at*
 cases hw:(decide (-120≤low)&&decide (low≤0))
 ·rw[hw]at cw
  refine Con.of_w (rs:=[.tmp 4]) Tryz.func40 rfl Tryz.ntmps40 rfl ?_
  simp(disch:=omega)only[go_sem]
  refine qn (cm) ?_
  simp(disch:=omega)only[go_sem]
  refine qn (cw) ?_
  simp(disch:=omega)only[go_sem]
  exact qu
 ·rw[hw]at cw
  rw[Bool.true_and]
  refine Con.of_w (rs:=[.tmp 4]) Tryz.func40 rfl Tryz.ntmps40 rfl ?_
  simp(disch:=omega)only[go_sem]
  refine qn (cm) ?_
  simp(disch:=omega)only[go_sem]
  refine qn (cw) ?_
  simp(disch:=omega)only[go_sem]
  refine qa (cn) ?_
  simp(disch:=omega)only[go_sem]
  refine qa (c3) ?_
  simp(disch:=omega)only[go_sem]
  refine qa (c4) ?_
  simp(disch:=omega)only[go_sem]
  refine qn (cc) ?_
  simp(disch:=omega)only[go_sem]
  exact qu
theorem VZ(n:Nat)(L:List ExV)(low:Int)(h:matV n L)(ha:api n L low=true):Con Tryz.prog 22 false [.ag [.v (.int .i64 (n)),.sl (L).length (ql ExV.cs (L))],.v (.int .i64 low)] [] (isA (.tu [.ag [.v (.int .i64 (n)),.sl (exT n L low).length (ql SpV.cs (exT n L low))],.v (.bool true)])):=by
 refine Con.frzA ?_
 have f:=QH h ha
 have cm:=XO n L low h
 rw[ha]at cm
 have ch:=ahQ n L low h ha
 have hB:=f.B
 have hbl:(gB n L (exS n L)).length=n*n:=by show(List.map _ _).length=n*n;rw[List.length_map];exact jS
 have hFl:(gFt n (gB n L (exS n L)) (JB n L low)).length=n*n:=by show(List.map _ _).length=n*n;rw[List.length_map];exact(zL _).1
 have hQb:=(Xx h.n4 (show 1≤JB n L low by omega) hFl (acO h.n4 (show 1≤JB n L low∧JB n L low≤148 by omega) hbl f.bd) (exS n L)).1
 obtain⟨q1,q2⟩:=pw8 f.s8 hB.2
 have hlo:=f.lo
 have hQl:=y5 (w:= -(JB n L low:Int)) hFl (exS n L)
 have co:=XP n ((gSq n (-(JB n L low:Int)) (gFt n (gB n L (exS n L)) (JB n L low)) (exS n L)).map SpV.can) (low-4) h.n4 (ja hQl) aR8 (yO (qH hQb (by omega) (by omega)) (by omega) (by omega)) (by omega)
 rw[aiQ]at co
 change Con _ _ _ _ _ (isA (.ag [.v (.int .i64 (n)),.sl (exT n L low).length (ql SpV.cs (exT n L low))]))at co
 have cf:=ahT n (exT n L low) (awd h f).1
 rw[List.map_id']at cf
 generalize exT n L low=H at*
 generalize (gSq n (-(JB n L low:Int)) (gFt n (gB n L (exS n L)) (JB n L low)) (exS n L)).map SpV.can=Q at*
 refine Con.of_w (rs:=[.cell 4 53,.tmp 5]) Tryz.func22 rfl Tryz.ntmps22 rfl ?_
 simp(disch:=omega)only[go_sem]
 refine qa (cm) ?_
 simp(disch:=omega)only[go_sem]
 refine qa (ch) ?_
 simp(disch:=omega)only[go_sem]
 refine qa (co) ?_
 simp(disch:=omega)only[go_sem]
 refine qa (cf) ?_
 simp(disch:=omega)only[go_sem]
 exact qu
theorem Xg(n:Nat)(L:List ExV)(low:Int)(h:matV n L)(ha:api n L low=false):Con Tryz.prog 22 false [.ag [.v (.int .i64 (n)),.sl (L).length (ql ExV.cs (L))],.v (.int .i64 low)] [] (isA (.tu [.ag [.v (.int .i64 0),.sl 0 []],.v (.bool false)])):=by
 refine Con.frzA ?_
 have cm:=XO n L low h
 rw[ha]at cm
 refine Con.of_w (rs:=[.cell 4 53,.tmp 5]) Tryz.func22 rfl Tryz.ntmps22 rfl ?_
 simp(disch:=omega)only[go_sem]
 refine qa (cm) ?_
 simp(disch:=omega)only[go_sem]
 exact qu
/-! ### One number-/
end Go.Ab
namespace Go.Ab
open Go Go.Proofs
theorem aw5(s s':Bool)(xs xs':List Int)(e e':Int)(hl:xs.length≤2^60)(hl':xs'.length≤2^60):Con Tryz.prog 150 true [.ag [.v (.bool s),.sl xs.length (qg xs),.v (.int .i64 e),.v (.bool s'),.sl xs'.length (qg xs'),.v (.int .i64 e')],.ag [.v (.bool s),.sl xs.length (qg xs),.v (.int .i64 e),.v (.bool s'),.sl xs'.length (qg xs'),.v (.int .i64 e')]] [] (isA (.v (.bool true))):=by
 refine Con.of_w (rs:=[.tmp 4]) Tryz.func150 rfl Tryz.ntmps150 rfl ?_
 simp(disch:=omega)only[go_sem]
 refine qn (VV s xs e hl) ?_
 simp(disch:=omega)only[go_sem]
 refine qn (VV s' xs' e' hl') ?_
 simp(disch:=omega)only[go_sem]
 exact qy
end Go.Ab
namespace Go.Ab
open Go Go.Proofs
theorem aw7(l:List DyV)(hl:l.length≤1048576)(hx:∀d∈l,d.xs.length≤2^60):Con Tryz.prog 36 true [.sl l.length (ql DyV.cs l),.sl l.length (ql DyV.cs l)] [] (isA (.v (.bool true))):=by
 refine Con.of_w (rs:=[.tmp 4]) Tryz.func36 rfl Tryz.ntmps36 rfl ?_
 simp(disch:=omega)only[go_sem]
 refine qj (fun i:Nat=>[(0,.sl l.length (ql DyV.cs l)),(1,.sl l.length (ql DyV.cs l)),(5,.v (.int .i64 i))]) (fun _=>[]) (fun i=>i≤l.length) (fun i=>l.length-i) 0 (by omega)
  (Le.lst [] _ _ rfl (by simp(disch:=omega)only[go_sem]) (by simp(disch:=omega)only[go_sem])) ?_
 intro i hi
 simp(disch:=omega)only[go_sem]
 refine qi (fun h1=>?_) (fun h1=>?_)
 ·have hi2:i<l.length:=by omega
  have hcut:=awk (l:=l) (i:=i) hi2
  have hdm:(l.getD i dy0).xs.length≤2^60:=hx _ (by rw[List.getD_eq_getElem?_getD,List.getElem?_eq_getElem hi2];exact List.getElem_mem _)
  generalize l.getD i dy0=d at*
  simp(disch:=omega)only[go_sem,h1]
  refine qv rfl [⟨0,[],[]⟩,⟨1,[],[]⟩,⟨2,[],[]⟩,⟨3,[],[]⟩,⟨4,[3],[]⟩,⟨5,[3],[]⟩,⟨6,[3],[]⟩,⟨7,[3],[]⟩,⟨8,[],[]⟩,⟨9,[],[]⟩] (by kernel_rfl) ?_
  simp(disch:=omega)only[go_sem,hcut]
  refine⟨by omega,by omega,by omega,by omega,?_⟩
  refine qn (VV d.s d.xs d.e hdm) ?_
  simp(disch:=omega)only[go_sem]
  exact qe (i+1) [] (by show i+1≤_;omega) (by show l.length-(i+1)<l.length-i;omega) rfl (by simp(disch:=omega)only[go_sem];try omega) (by simp(disch:=omega)only[go_sem])
 ·simp(disch:=omega)only[go_sem,h1]
  exact qy
theorem ads(n:Int)(l:List DyV)(hl:l.length≤1048576)(hx:∀d∈l,d.xs.length≤2^60):Con Tryz.prog 10 true [.ag [.v (.int .i64 n),.sl l.length (ql DyV.cs l)],.ag [.v (.int .i64 n),.sl l.length (ql DyV.cs l)]] [] (isA (.v (.bool true))):=by
 have q:decide (n=n)=true:=decide_eq_true rfl
 refine Con.of_w (rs:=[.tmp 4]) Tryz.func10 rfl Tryz.ntmps10 rfl ?_
 simp(disch:=omega)only[go_sem]
 refine qn (aw7 l hl hx) ?_
 simp(disch:=omega)only[go_sem]
 exact qy
theorem aw6(l:List SpV)(hl:l.length≤1048576)(hx:∀s∈l,(lim s.lo.m).length≤2^60∧(lim s.hi.m).length≤2^60):Con Tryz.prog 67 true [.sl l.length (ql SpV.cs l),.sl l.length (ql SpV.cs l)] [] (isA (.v (.bool true))):=by
 refine Con.of_w (rs:=[.tmp 4]) Tryz.func67 rfl Tryz.ntmps67 rfl ?_
 simp(disch:=omega)only[go_sem]
 refine qj (fun i:Nat=>[(0,.sl l.length (ql SpV.cs l)),(1,.sl l.length (ql SpV.cs l)),(5,.v (.int .i64 i))]) (fun _=>[]) (fun i=>i≤l.length) (fun i=>l.length-i) 0 (by omega)
  (Le.lst [] _ _ rfl (by simp(disch:=omega)only[go_sem]) (by simp(disch:=omega)only[go_sem])) ?_
 intro i hi
 simp(disch:=omega)only[go_sem]
 refine qi (fun h1=>?_) (fun h1=>?_)
 ·have hi2:i<l.length:=by omega
  have hcut:=zX (l:=l) (i:=i) hi2
  have hdm:=hx (l.getD i sp0) (by rw[List.getD_eq_getElem?_getD,List.getElem?_eq_getElem hi2];exact List.getElem_mem _)
  generalize l.getD i sp0=d at*
  simp(disch:=omega)only[go_sem,h1]
  refine qv rfl [⟨0,[],[]⟩,⟨1,[],[]⟩,⟨2,[],[]⟩,⟨3,[],[]⟩,⟨4,[3],[]⟩,⟨5,[3],[]⟩,⟨6,[3],[]⟩,⟨7,[3],[]⟩,⟨8,[],[]⟩,⟨9,[],[]⟩] (by kernel_rfl) ?_
  simp(disch:=omega)only[go_sem,hcut]
  refine⟨by omega,by omega,by omega,by omega,?_⟩
  refine qn (aw5 d.lo.s d.hi.s (lim d.lo.m) (lim d.hi.m) d.lo.e d.hi.e hdm.1 hdm.2) ?_
  simp(disch:=omega)only[go_sem]
  exact qe (i+1) [] (by show i+1≤_;omega) (by show l.length-(i+1)<l.length-i;omega) rfl (by simp(disch:=omega)only[go_sem];try omega) (by simp(disch:=omega)only[go_sem])
 ·simp(disch:=omega)only[go_sem,h1]
  exact qy
theorem YP(n:Int)(l:List SpV)(hl:l.length≤1048576)(hx:∀s∈l,(lim s.lo.m).length≤2^60∧(lim s.hi.m).length≤2^60):Con Tryz.prog 24 true [.ag [.v (.int .i64 n),.sl l.length (ql SpV.cs l)],.ag [.v (.int .i64 n),.sl l.length (ql SpV.cs l)]] [] (isA (.v (.bool true))):=by
 refine Con.of_w (rs:=[.tmp 4]) Tryz.func24 rfl Tryz.ntmps24 rfl ?_
 simp(disch:=omega)only[go_sem]
 refine qn (aw6 l hl hx) ?_
 simp(disch:=omega)only[go_sem]
 exact qy
theorem Qu{x:Nat}(hx:20000000≤x):zP x=false:=by
 unfold zP
 have:Nat.blt x 20000000=false:=by
  cases h:Nat.blt x 20000000 with
  |false=>rfl
  |true=>simp[Nat.blt]at h;omega
 rw[this,Bool.and_false]
theorem ZG{ρ:Nat→Nat}{h:Nat→Ob}{c n:Nat}{F:Nat→Ob}(hF:∀j,agZ (F j)):V7 ρ h c ((List.range n).map F)=fam c n F h:=by
 funext m
 rw[y9]
 unfold fam
 rw[List.length_map,List.length_range]
 by_cases hm:c≤m∧m<c+n
 ·rw[if_pos hm,if_pos hm,List.getD_eq_getElem?_getD,List.getElem?_map,List.getElem?_range (by omega)]
  exact(hF _).2.1 ρ
 ·rw[if_neg hm,if_neg hm]
theorem agW{c n:Nat}{l:List DyV}(hn:n<9000000):zx (rho c []) (ql (dcs 1) (prs l n))=ql (dcs (c+1)) (prs l n):=yF fun p hp=>by
 have:=Yd hp
 unfold rho
 rw[if_pos (by omega)];omega
theorem Qy{h:Nat→Ob}{c n:Nat}{row:Ob}{F:Nat→Ob}(hh:∀j,j≤n→h (c+j)=.free):qL h c (row::(List.range n).map F):=by
 have key:∀(L:List Ob) (k:Nat),(∀j,j<L.length→h (k+j)=.free)→qL h k L:=by
  intro L
  induction L with
  |nil=>intro k _;trivial
  |cons a L ih=>
   intro k hk
   refine⟨hk 0 (by simp),ih (k+1) fun j hj=>?_⟩
   have:=hk (j+1) (by simpa using hj)
   rwa[show k+1+j=k+(j+1) by omega]
 exact key _ c fun j hj=>hh j (by simp at hj;omega)
set_option maxRecDepth 100000 in
theorem Z4(n:Int)(l:List DyV)(hl:l.length≤1048576)(hx:∀d∈l,d.xs.length≤1048576):Con Tryz.prog 17 false [.ag [.v (.int .i64 n),.sl l.length (ql DyV.cs l)]] []
  (fun r hs bs=>r=.ag [.v (.int .i64 n),.rf 0 0 l.length]∧hs=.own 3 (ql (dcs 1) (prs l l.length))::(List.range l.length).map (avn l)):=by
 refine Con.of_w (rs:=[.cell 2 25]) Tryz.func17 rfl Tryz.ntmps17 rfl ?_
 simp(disch:=omega)only[go_sem]
 refine qF (aow l hl hx) (by simp(disch:=omega)only[go_sem]) ?_
 rintro r hs ⟨rfl,rfl⟩
 refine⟨⟨by simp;omega,Qy fun j hj=>?_⟩,?_⟩
 ·rw[qh (by omega),qh (by omega),qh (by omega),qh (by omega),adB (by omega)]
 have hrow:=@agW 110000000 l.length l (by omega)
 simp(disch:=omega)only[go_sem,ZG (jc l),qw,hrow]
 refine VF (fun m=>110000000+m) (.own 3 (ql (dcs 1) (prs l l.length))) l.length (avn l) [.ag [.v (.int .i64 n),.rf 0 0 l.length]] (by omega) (by simp(disch:=omega)only[go_sem,aJV,nmF,jq];try simp) ⟨?_,?_,trivial⟩ (fun j hj=>⟨?_,(jc l j).2.2 _,(jc l j).1⟩) (fun m hm=>Qu (by omega)) (fun m m' hm hm' e=>Nat.add_left_cancel e) (by simp) ⟨rfl,rfl⟩
 ·show Ob.own 3 (zx _ (ql (dcs 1) (prs l l.length)))=_
  rw[yF (a:=1) (b:=110000001) (fun p hp=>by omega),qh (by omega),qh (by omega),qw (by omega),qq]
 ·exact zZ fun p hp=>.inr (by have:=Yd hp;omega)
 ·rw[(jc l j).2.1,qh (by omega),qh (by omega),show 110000000+(1+j)=110000001+j by omega,qW hj]
end Go.Ab
