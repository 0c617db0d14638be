/- What the proof of this claim stands on: the walks of the functions and the plain laws, part 6. -/
import Derived.Test.YtcobffkepgogiaaGreatDoorFnDetsLib5
import Derived.Test.YtcobffkepgogiaaGreatDoorRows
import Derived.Test.YtcobffkepgogiaaGreatDoorCards
import Derived.Test.YtcobffkepgogiaaGreatDoorTie
import Derived.Handed
import Derived.ChangeSame
import Derived.JoinedOf
import Derived.RowKit
import Derived.WalkKit
import Derived.ProofKit
import Derived.OpenShut
import Derived.LaidLaws
import Derived.LaidHandle
import Derived.SevenTiedAt
import Derived.Stop.LaidErr
import Derived.Lib.LaidTab
set_option linter.unusedVariables false
set_option linter.unusedSimpArgs false
namespace Go.Ab
theorem aCm{n:Nat}(hn:n≤4)(A:Nat→Nat→Int):yy n (fun i j=>A j i)=yy n A:=by
 rcases(show n=0∨n=1∨n=2∨n=3∨n=4 by omega)with rfl|rfl|rfl|rfl|rfl
 ·rfl
 ·rw[aSE,aSE]
 ·rw[aMB,aMB];grind
 ·rw[aMA,aMA];grind
 ·rw[baQ,baQ];grind
theorem Qi:∀{n:Nat} {A B:Nat→Nat→Int},(∀i j,i<n→j<n→A i j=B i j)→yy n A=yy n B
 |0,_,_,_=>rfl
 |n+1,A,B,h=>by
  rw[yy,yy]
  refine Zn fun j hj=>?_
  rw[h 0 j (by omega) hj,Qi (n:=n) (A:=aoF A 0 j) (B:=aoF B 0 j) fun i k hi hk=>?_]
  unfold aoF skp
  exact h _ _ (by split<;>omega) (by split<;>omega)
def m2(A:Nat→Nat→Int)(r s c d:Nat):Int:=A r c*A s d-A r d*A s c
theorem KK(A:Nat→Nat→Int):yy 4 A=m2 A 0 1 0 1*m2 A 2 3 2 3-m2 A 0 1 0 2*m2 A 2 3 1 3+m2 A 0 1 0 3*m2 A 2 3 1 2+m2 A 0 1 1 2*m2 A 2 3 0 3-m2 A 0 1 1 3*m2 A 2 3 0 2+m2 A 0 1 2 3*m2 A 2 3 0 1:=baQ A
def aiM(n:Nat)(A B:Nat→Nat→Int):Nat→Nat→Int:=fun i j=>jt (fun t=>A i t*B t j) n
theorem bdC(A B:Nat→Nat→Int)(i j:Nat):aiM 4 A B i j=A i 0*B 0 j+A i 1*B 1 j+A i 2*B 2 j+A i 3*B 3 j:=by
 simp[aiM,jt]
theorem bdD(A B:Nat→Nat→Int)(i j:Nat):aiM 3 A B i j=A i 0*B 0 j+A i 1*B 1 j+A i 2*B 2 j:=by
 simp[aiM,jt]
theorem bdE(A B:Nat→Nat→Int)(i j:Nat):aiM 2 A B i j=A i 0*B 0 j+A i 1*B 1 j:=by
 simp[aiM,jt]
theorem bdF(A B:Nat→Nat→Int)(i j:Nat):aiM 1 A B i j=A i 0*B 0 j:=by
 simp[aiM,jt]
theorem aOD(A B:Nat→Nat→Int)(r s c d:Nat):m2 (aiM 4 A B) r s c d=m2 A r s 0 1*m2 B 0 1 c d+m2 A r s 0 2*m2 B 0 2 c d+m2 A r s 0 3*m2 B 0 3 c d+m2 A r s 1 2*m2 B 1 2 c d+m2 A r s 1 3*m2 B 1 3 c d+m2 A r s 2 3*m2 B 2 3 c d:=by
 simp only[m2,bdC]
 grind
def q4(B:Nat→Nat→Int)(p q r s:Nat):Int:=m2 B p q 0 1*m2 B r s 2 3-m2 B p q 0 2*m2 B r s 1 3+m2 B p q 0 3*m2 B r s 1 2+m2 B p q 1 2*m2 B r s 0 3-m2 B p q 1 3*m2 B r s 0 2+m2 B p q 2 3*m2 B r s 0 1
theorem y3(B:Nat→Nat→Int)(p q s:Nat):q4 B p q p s=0:=by unfold q4 m2;grind
theorem aAL(B:Nat→Nat→Int)(p q r:Nat):q4 B p q r p=0:=by unfold q4 m2;grind
theorem aAK(B:Nat→Nat→Int)(p q s:Nat):q4 B p q q s=0:=by unfold q4 m2;grind
theorem Kh(B:Nat→Nat→Int)(p q r:Nat):q4 B p q r q=0:=by unfold q4 m2;grind
theorem bdt(B:Nat→Nat→Int):q4 B 0 1 2 3=yy 4 B:=(KK B).symm
theorem bds(B:Nat→Nat→Int):q4 B 0 2 1 3= -yy 4 B:=by rw[KK];unfold q4 m2;grind
theorem bdr(B:Nat→Nat→Int):q4 B 0 3 1 2=yy 4 B:=by rw[KK];unfold q4 m2;grind
theorem bdq(B:Nat→Nat→Int):q4 B 1 2 0 3=yy 4 B:=by rw[KK];unfold q4 m2;grind
theorem bdp(B:Nat→Nat→Int):q4 B 1 3 0 2= -yy 4 B:=by rw[KK];unfold q4 m2;grind
theorem bdo(B:Nat→Nat→Int):q4 B 2 3 0 1=yy 4 B:=by rw[KK];unfold q4 m2;grind
theorem apB(A B:Nat→Nat→Int):yy 4 (aiM 4 A B)=m2 A 0 1 0 1*m2 A 2 3 0 1*q4 B 0 1 0 1+m2 A 0 1 0 1*m2 A 2 3 0 2*q4 B 0 1 0 2+m2 A 0 1 0 1*m2 A 2 3 0 3*q4 B 0 1 0 3+m2 A 0 1 0 1*m2 A 2 3 1 2*q4 B 0 1 1 2+m2 A 0 1 0 1*m2 A 2 3 1 3*q4 B 0 1 1 3+m2 A 0 1 0 1*m2 A 2 3 2 3*q4 B 0 1 2 3+m2 A 0 1 0 2*m2 A 2 3 0 1*q4 B 0 2 0 1+m2 A 0 1 0 2*m2 A 2 3 0 2*q4 B 0 2 0 2+m2 A 0 1 0 2*m2 A 2 3 0 3*q4 B 0 2 0 3+m2 A 0 1 0 2*m2 A 2 3 1 2*q4 B 0 2 1 2+m2 A 0 1 0 2*m2 A 2 3 1 3*q4 B 0 2 1 3+m2 A 0 1 0 2*m2 A 2 3 2 3*q4 B 0 2 2 3+m2 A 0 1 0 3*m2 A 2 3 0 1*q4 B 0 3 0 1+m2 A 0 1 0 3*m2 A 2 3 0 2*q4 B 0 3 0 2+m2 A 0 1 0 3*m2 A 2 3 0 3*q4 B 0 3 0 3+m2 A 0 1 0 3*m2 A 2 3 1 2*q4 B 0 3 1 2+m2 A 0 1 0 3*m2 A 2 3 1 3*q4 B 0 3 1 3+m2 A 0 1 0 3*m2 A 2 3 2 3*q4 B 0 3 2 3+m2 A 0 1 1 2*m2 A 2 3 0 1*q4 B 1 2 0 1+m2 A 0 1 1 2*m2 A 2 3 0 2*q4 B 1 2 0 2+m2 A 0 1 1 2*m2 A 2 3 0 3*q4 B 1 2 0 3+m2 A 0 1 1 2*m2 A 2 3 1 2*q4 B 1 2 1 2+m2 A 0 1 1 2*m2 A 2 3 1 3*q4 B 1 2 1 3+m2 A 0 1 1 2*m2 A 2 3 2 3*q4 B 1 2 2 3+m2 A 0 1 1 3*m2 A 2 3 0 1*q4 B 1 3 0 1+m2 A 0 1 1 3*m2 A 2 3 0 2*q4 B 1 3 0 2+m2 A 0 1 1 3*m2 A 2 3 0 3*q4 B 1 3 0 3+m2 A 0 1 1 3*m2 A 2 3 1 2*q4 B 1 3 1 2+m2 A 0 1 1 3*m2 A 2 3 1 3*q4 B 1 3 1 3+m2 A 0 1 1 3*m2 A 2 3 2 3*q4 B 1 3 2 3+m2 A 0 1 2 3*m2 A 2 3 0 1*q4 B 2 3 0 1+m2 A 0 1 2 3*m2 A 2 3 0 2*q4 B 2 3 0 2+m2 A 0 1 2 3*m2 A 2 3 0 3*q4 B 2 3 0 3+m2 A 0 1 2 3*m2 A 2 3 1 2*q4 B 2 3 1 2+m2 A 0 1 2 3*m2 A 2 3 1 3*q4 B 2 3 1 3+m2 A 0 1 2 3*m2 A 2 3 2 3*q4 B 2 3 2 3:=by
 rw[KK]
 simp only[aOD]
 simp only[q4]
 grind
theorem aCn(A B:Nat→Nat→Int):yy 4 (aiM 4 A B)=yy 4 A*yy 4 B:=by
 rw[apB]
 rw[y3 B 0 1 1,y3 B 0 1 2,y3 B 0 1 3,aAK B 0 1 2,aAK B 0 1 3,y3 B 0 2 1,y3 B 0 2 2,y3 B 0 2 3,Kh B 0 2 1,aAK B 0 2 3,y3 B 0 3 1,y3 B 0 3 2,y3 B 0 3 3,Kh B 0 3 1,Kh B 0 3 2,aAL B 1 2 0,Kh B 1 2 0,y3 B 1 2 2,y3 B 1 2 3,aAK B 1 2 3,aAL B 1 3 0,Kh B 1 3 0,y3 B 1 3 2,y3 B 1 3 3,Kh B 1 3 2,aAL B 2 3 0,Kh B 2 3 0,aAL B 2 3 1,Kh B 2 3 1,y3 B 2 3 3]
 rw[bdt,bds,bdr,bdq,bdp,bdo,KK A]
 grind
theorem aLn{n:Nat}(hn:n≤4)(A B:Nat→Nat→Int):yy n (aiM n A B)=yy n A*yy n B:=by
 rcases(show n=0∨n=1∨n=2∨n=3∨n=4 by omega)with rfl|rfl|rfl|rfl|rfl
 ·rfl
 ·rw[aSE,aSE,aSE,bdF]
 ·rw[aMB,aMB,aMB];simp only[bdE];grind
 ·rw[aMA,aMA,aMA];simp only[bdD];grind
 ·exact aCn A B
end Go.Ab
namespace Go.Ab
def bex(n:Nat)(A:Nat→Nat→Int)(k j:Nat):Int:=sgI (k+j)*yy (n-1) (aoF A j k)
end Go.Ab
namespace Go.Ab
open Go Go.Proofs
/-! ### What determinants are worth-/
theorem aqO{l m:List ExV}{t:Nat}:(l++m).getD t ex0=if t<l.length then l.getD t ex0 else m.getD (t-l.length) ex0:=by
 rw[List.getD_eq_getElem?_getD,List.getElem?_append]
 split<;>rw[List.getD_eq_getElem?_getD]
theorem ada{n:Nat}{l:List ExV}{r c i:Nat}(hi:i≠r):∀j t,t<(mnC n l r c i j).length→(mnC n l r c i j).getD t ex0=l.getD (i*n+skp c t) ex0
 |0,t,h=>by simp[mnC]at h
 |j+1,t,h=>by
  have hl:=Za (n:=n) (l:=l) (r:=r) (c:=c) (i:=i) j
  rw[if_neg hi]at hl
  rw[mnC]at h ⊢
  by_cases hc:j=c
  ·rw[if_neg (fun h=>h.2 hc)]at h ⊢
   exact ada hi j t h
  ·rw[if_pos ⟨hi,hc⟩]at h ⊢
   rw[aqO]
   by_cases ht:t<(mnC n l r c i j).length
   ·rw[if_pos ht,ada hi j t ht]
   ·rw[if_neg ht]
    rw[List.length_append,List.length_singleton]at h
    have e:t=(mnC n l r c i j).length:=by omega
    have hs:skp c t=j:=by unfold skp;split at hl<;>split<;>omega
    rw[hs,e,Nat.sub_self];rfl
theorem aoE{n:Nat}{l:List ExV}{r c:Nat}(hc:c<n):∀k i j,i<(if r<k then k-1 else k)→j<n-1→(mnR n l r c k).getD (i*(n-1)+j) ex0=l.getD (skp r i*n+skp c j) ex0
 |0,i,j,h,_=>by simp at h
 |k+1,i,j,h,hj=>by
  have hl:=yp (n:=n) (l:=l) (r:=r) (c:=c) hc k
  rw[mnR,aqO]
  by_cases ht:i<(if r<k then k-1 else k)
  ·have:i*(n-1)+j<(if r<k then k-1 else k)*(n-1):=by
    have:=Nat.mul_le_mul_right (n-1) (show i+1≤(if r<k then k-1 else k) by omega)
    rw[Nat.succ_mul]at this
    omega
   rw[if_pos (by rw[hl];exact this)]
   exact aoE hc k i j ht hj
  ·have hk:k≠r:=by
    intro e;subst e
    rw[if_pos (by omega)]at h
    rw[if_neg (by omega)]at ht
    omega
   have e:i=(if r<k then k-1 else k):=by split at h<;>split at ht<;>split<;>omega
   have hs:skp r i=k:=by unfold skp;split at e<;>split<;>omega
   rw[←e]at hl
   rw[if_neg (by rw[hl];omega),hl,Nat.add_sub_cancel_left,hs]
   have h2:=Za (n:=n) (l:=l) (r:=r) (c:=c) (i:=k) n
   rw[if_neg hk,if_pos hc]at h2
   exact ada hk n j (by omega)
theorem aYZ{K n:Nat}{l:List ExV}{r c i j:Nat}(hr:r<n+1)(hc:c<n+1)(hi:i<n)(hj:j<n):mv K (mnR (n+1) l r c (n+1)) n i j=aoF (mv K l (n+1)) r c i j:=by
 unfold mv aoF
 have:=aoE (n:=n+1) (l:=l) (r:=r) hc (n+1) i j (by rw[if_pos hr];omega) (by omega)
 rw[show n+1-1=n from rfl]at this
 rw[this]
theorem aY0{K n:Nat}{l:List ExV}{r c:Nat}(hl:l.length=n*n)(h:eK K l):eK K (mnR n l r c n):=fun x hx=>h x (ZD hl n (Nat.le_refl n) x hx)
theorem aIL{K k:Nat}{x:ExV}:(x.sgn k).val K=sgI k*x.val K:=by
 unfold ExV.sgn sgI
 split
 ·rw[aJY];omega
 ·omega
theorem aYG{k:Nat}{x:ExV}:(x.sgn k).e=x.e:=by unfold ExV.sgn;split<;>rfl
theorem Qj{K:Nat}:∀(n:Nat) (l:List ExV),l.length=n*n→eK K l→(zL n l).val (K*n)=yy n (mv K l n)∧ -((K*n:Nat):Int)≤(zL n l).e
 |0,l,_,_=>by
  refine⟨?_,by show-((0:Nat):Int)≤0;omega⟩
  show dv 0 false 1 0=1
  decide+kernel
 |n+1,l,hl,hK=>by
  have hf:∀k,k≤n+1→((List.range k).foldl (fun s j=>s.plus (((l.getD (0*(n+1)+j) ex0).times (zL n (mnR (n+1) l 0 j (n+1)))).sgn j)) ex0).val (K*(n+1))=jt (fun j=>sgI j*(mv K l (n+1) 0 j*yy n (aoF (mv K l (n+1)) 0 j))) k∧ -((K*(n+1):Nat):Int)≤((List.range k).foldl (fun s j=>s.plus (((l.getD (0*(n+1)+j) ex0).times (zL n (mnR (n+1) l 0 j (n+1)))).sgn j)) ex0).e:=by
   intro k
   induction k with
   |zero=>exact fun _=>⟨ado _,by show-((K*(n+1):Nat):Int)≤0;omega⟩
   |succ k ih=>
    intro hk
    obtain⟨h1,h2⟩:=ih (by omega)
    obtain⟨h3,h4⟩:=Qj n (mnR (n+1) l 0 k (n+1)) (by rw[yp (by omega),if_pos (by omega)];rfl) (aY0 hl hK)
    have h5:=aex hK (i:=0*(n+1)+k) (by rw[hl];exact q8 (by omega) hk)
    rw[List.range_succ,List.foldl_append,List.foldl_cons,List.foldl_nil,jt]
    have h6: -((K*(n+1):Nat):Int)≤(((l.getD (0*(n+1)+k) ex0).times (zL n (mnR (n+1) l 0 k (n+1)))).sgn k).e:=by
     rw[aYG,Nat.mul_succ]
     show _≤(l.getD (0*(n+1)+k) ex0).e+(zL n (mnR (n+1) l 0 k (n+1))).e
     omega
    refine⟨?_,aon h2 h6⟩
    rw[JZ h2 h6,h1,aIL,Nat.mul_succ,Nat.add_comm (K*n) K,Zh h5 h4,h3,Qi (n:=n) fun i j hi hj=>aYZ (by omega) (by omega) hi hj]
    rfl
  exact hf (n+1) (Nat.le_refl _)
theorem apA{n:Nat}{L:List ExV}(h:matV n L)(hf:(zL n L).fit=true):(zL n L).tel.val (3000*n)=yy n (mv 3000 L n):=by
 obtain⟨h1,h2⟩:=Qj n L h.len (h.eK (K:=3000) (by omega))
 rw[aIm hf,aqw h2,h1]
end Go.Ab
namespace Go.Ab
open Go Go.Proofs
/-! ### Turned matrices-/
theorem aEb{K:Nat}{x y:ExV}(h1: -(K:Int)≤x.e)(h2: -(K:Int)≤y.e)(h:x.val K=y.val K):x.tel=y.tel∧x.fit=y.fit:=by
 have hf:x.fit=y.fit:=aCk h1 h2 h
 obtain⟨g1,g2,g3⟩:=apx h1 h2 h
 refine⟨?_,hf⟩
 unfold ExV.tel
 rw[hf,show x.can=y.can from by show(⟨oS x.s x.m,oM x.m,oE x.m x.e⟩:ExV)=⟨oS y.s y.m,oM y.m,oE y.m y.e⟩;rw[g1,g2,g3]]
def yS(n:Nat)(l:List ExV):List ExV:=gl n (fun i j=>l.getD (j*n+i) ex0) (n*n)
theorem Qc{n:Nat}{L:List ExV}(h:matV n L):matV n (yS n L):=⟨h.n1,h.n4,jX,fun x hx=>by
 unfold yS gl at hx
 obtain⟨t,ht,rfl⟩:=List.mem_map.1 hx
 have ht:=List.mem_range.1 ht
 have h0:=h.n1
 have hj:=Nat.mod_lt t (show 0<n by omega)
 have hi:t/n<n:=(Nat.div_lt_iff_lt_mul (by omega)).2 ht
 have hm:=q8 hj hi
 show(L.getD (t % n*n+t/n) ex0).ok=true
 exact h.ok _ (by rw[List.getD_eq_getElem?_getD,List.getElem?_eq_getElem (by rw[h.len];exact hm)];exact List.getElem_mem _)⟩
theorem aJ0{K n:Nat}{L:List ExV}{i j:Nat}(hi:i<n)(hj:j<n):mv K (yS n L) n i j=mv K L n j i:=by
 unfold mv yS
 rw[aOQ hi hj]
theorem aJs{L:List ExV}(h:∀x∈L,x.ok=true):L.all ExV.fit=true∧L.map ExV.can=L:=
 ⟨List.all_eq_true.2 fun x hx=>aOj (h x hx),by
  conv=>rhs;rw[←List.map_id L]
  exact List.map_congr_left fun x hx=>aEo (h x hx)⟩
theorem ajl(n:Nat)(l:List ExV)(i j:Nat)(hn:n≤4)(hi:i<n)(hj:j<n)(hl:l.length=n*n):
  Con Tryz.prog 98 false [.v (.int .i64 i),.v (.int .i64 j),.fp [.v (.int .i64 n),.sl l.length (qn ExV.cs l)] 0] [] (isA (.ag [.v (.bool (l.getD (j*n+i) ex0).s),.sl (lim (l.getD (j*n+i) ex0).m).length (qc (lim (l.getD (j*n+i) ex0).m)),.v (.int .i64 (l.getD (j*n+i) ex0).e)])):=by
 refine Con.frzA ?_
 have hx:=q8 hj hi
 have hq:=j7 hn
 have c1:=yF n l j i (by omega) (by omega) (by omega) (by omega) (by omega)
 generalize l.getD (j*n+i) ex0=x at*
 refine Con.of_w (rs:=[.cell 5 118]) Tryz.func98 rfl Tryz.ntmps98 rfl ?_
 simp(disch:=omega)only[go_sem]
 refine qa (c1) ?_
 simp(disch:=omega)only[go_sem]
 exact qj
theorem K3(n:Nat)(L:List ExV)(h:matV n L):Con Tryz.prog 26 false [.ag [.v (.int .i64 (n)),.sl (L).length (qn ExV.cs (L))]] [] (isA (.tu [.ag [.v (.int .i64 (n)),.sl (yS n L).length (qn ExV.cs (yS n L))],.v (.bool true)])):=by
 refine Con.frzA ?_
 have c:=zR n 98 [.fp [.v (.int .i64 n),.sl L.length (qn ExV.cs L)] 0] (fun i j=>L.getD (j*n+i) ex0) h.n4 (fun i j hi hj=>ajl n L i j h.n4 hi hj h.len) (by simp(disch:=omega)only[go_sem]) (fun h=>rfl) (fun h=>rfl) (fun ks=>by simp(disch:=omega)only[go_sem]) (fun ρ=>rfl)
 change Con _ _ _ _ _ (isA (.ag [.v (.int .i64 (n)),.sl (yS n L).length (qn ExV.cs (yS n L))]))at c
 have hT:=Qc h
 have cm:=Yt n (yS n L) (by have:=hT.l16;omega) hT.bd4
 obtain⟨e1,e2⟩:=aJs hT.ok
 unfold gN gT at cm
 rw[e1,if_pos rfl,if_pos rfl,e2]at cm
 generalize yS n L=T at*
 refine Con.of_aw Tryz.func26 rfl Tryz.ntmps26 (by simp) (by simp) (by simp)
  (AW.seqLe (E:=[(1,.pt 1 0),(2,.pt 2 0)]) (H:=[(1,.own 0 [.v (.int .i64 n),.sl L.length (qn ExV.cs L)]),(2,.own 0 [.v (.int .i64 0),.v (.slice none 0 0)])]) (W.sound ?_)
   (AW.seqLe (E:=[(1,.pt 1 0),(2,.pt 2 0)]) (H:=[(1,.own 0 [.v (.int .i64 n),.sl L.length (qn ExV.cs L)]),(2,.own 0 [.v (.int .i64 0),.v (.slice none 0 0)])]) (W.sound ?_)
    (AW.seqLe (E:=[(1,.pt 1 0),(2,.pt 2 0),(4,.fp [.v (.int .i64 n),.sl L.length (qn ExV.cs L)] 0)]) (H:=[(1,.own 0 [.v (.int .i64 n),.sl L.length (qn ExV.cs L)]),(2,.own 0 [.v (.int .i64 0),.v (.slice none 0 0)])]) (W.sound ?_) (W.sound ?_))))
 ·show @W Tryz.prog 18 ⟨_⟩ ⟨_⟩ _ _
  simp(disch:=omega)only[go_sem]
  exact Le.lst [(1,30000000),(2,40000000)] _ _ rfl (by simp(disch:=omega)only[go_sem]) (by simp(disch:=omega)only[go_sem])
 ·show @W Tryz.prog 18 ⟨_⟩ ⟨_⟩ _ _
  simp(disch:=omega)only[go_sem]
  refine ql (jK n L h) ?_
  simp(disch:=omega)only[go_sem]
  exact Le.lst [] _ _ rfl (by simp(disch:=omega)only[go_sem]) (by simp(disch:=omega)only[go_sem])
 ·show @W Tryz.prog 18 ⟨_⟩ ⟨_⟩ _ _
  simp(disch:=omega)only[go_sem]
  refine qa (zj n L (by have:=h.l16;omega)) ?_
  simp(disch:=omega)only[go_sem]
  exact(Le.frz 60000000 (z:=0) (ks:=[.v (.int .i64 n),.sl L.length (qn ExV.cs L)]) (by simp(disch:=omega)only[go_sem]) rfl (by simp(disch:=omega)only[go_sem])).trans (Le.lst [] _ _ rfl (by simp(disch:=omega)only[go_sem]) (by simp(disch:=omega)only[go_sem]))
 show @W Tryz.prog 18 ⟨_⟩ ⟨fun x σ=>@qY _ _ _ ⟨_⟩ _ ⟨_⟩ x σ⟩ _ _
 simp(disch:=omega)only[go_sem]
 refine qa (c) ?_
 simp(disch:=omega)only[go_sem]
 refine qa (cm) ?_
 simp(disch:=omega)only[go_sem]
 exact qj
theorem ai4{n:Nat}{L:List ExV}(h:matV n L):(zL n (yS n L)).tel=(zL n L).tel∧(zL n (yS n L)).fit=(zL n L).fit:=by
 obtain⟨a1,a2⟩:=Qj (K:=3000) n L h.len (h.eK (by omega))
 obtain⟨b1,b2⟩:=Qj (K:=3000) n (yS n L) (Qc h).len ((Qc h).eK (by omega))
 refine aEb (K:=3000*n) b2 a2 ?_
 rw[a1,b1,←aCm h.n4 (mv 3000 L n)]
 exact Qi fun i j hi hj=>aJ0 hi hj
end Go.Ab
namespace Go.Ab
open Go Go.Proofs
set_option maxRecDepth 100000 in
set_option maxHeartbeats 4000000 in
theorem aBt(l:List UInt8)(hl:l.length≤9223372036854775807):Con Tryz.prog 4 true [.sl l.length (qk l)] [] (isA (.v (.bool true))):=by
 refine Con.of_w (rs:=[.tmp 2]) Tryz.func4 rfl Tryz.ntmps4 rfl ?_
 simp(disch:=omega)only[go_sem]
 refine ql (aCz) ?_
 simp(disch:=omega)only[go_sem]
 refine qW (Jf l hl) (by simp(disch:=omega)only[go_sem]) ?_
 rintro r hs ⟨rfl, -,⟨k,k',M,M',⟨a1,a2⟩,⟨b1,b2⟩,rfl⟩⟩
 refine⟨by simp[qN],?_⟩
 simp(disch:=omega)only[go_sem]
 cases hno:aMF k M k' M'
 ·refine qa (YA k k' M M' a1 a2 b1 b2 hno) ?_
  simp(disch:=omega)only[go_sem]
  refine ql (K2) ?_
  simp(disch:=omega)only[go_sem]
  exact qx
 simp only[aMF,Bool.and_eq_true,decide_eq_true_eq]at hno
 obtain⟨hA,hB,rfl⟩:=hno
 obtain⟨n,L,rfl,rfl,hL⟩:=aEt hA
 obtain⟨n',L',hn',rfl,hL'⟩:=aEt hB
 obtain rfl:n=n':=by omega
 rw[aeh,aeh,List.length_map,List.length_map]
 have cX:=adP n L L' hL hL'
 cases hf:(zN n L L').all ExV.fit
 ·rw[hf]at cX
  refine qa (cX) ?_
  simp(disch:=omega)only[go_sem]
  refine ql (K2) ?_
  simp(disch:=omega)only[go_sem]
  exact qx
 obtain⟨e1,e2,hP⟩:=aY7 (l:=zN n L L') hL.n1 hL.n4 jX hf
 rw[hf,e1,e2]at cX
 refine qa (cX) ?_
 simp(disch:=omega)only[go_sem]
 have vP:∀i j,i<n→j<n→mv (3000+3000) ((zN n L L').map ExV.can) n i j=aiM n (mv 3000 L n) (mv 3000 L' n) i j:=fun i j hi hj=>aBj (hL.eK (by omega)) (hL'.eK (by omega)) hL.len hL'.len hi hj
 generalize (zN n L L').map ExV.can=P at*
 have c1:=jm n L hL
 have c2:=jm n L' hL'
 have c3:=jm n P hP
 have cT:=K3 n L hL
 have hT:=Qc hL
 have c4:=jm n (yS n L) hT
 have hn1:=hL.n1
 obtain⟨q1,q2⟩:=ai4 hL
 rw[q1,q2]at c4
 have hw:(zL n L).fit=true→(zL n L').fit=true→(zL n P).fit=true→((zL n L).tel.times (zL n L').tel).fit=true→((zL n L).tel.times (zL n L').tel).tel=(zL n P).tel:=fun f1 f2 f3 f4=>by
  have d1:=apA hL f1
  have d2:=apA hL' f2
  obtain⟨d3,d4⟩:=Qj (K:=3000+3000) n P hP.len (hP.eK (by omega))
  have o1:=yz (zL n L)
  have o2:=yz (zL n L')
  have r1:=(y4 o1).1.1
  have r2:=(y4 o2).1.1
  refine(aEb (K:=3000*n+3000*n) ?_ ?_ ?_).1
  ·show _≤(zL n L).tel.e+(zL n L').tel.e;omega
  ·have:(3000+3000)*n=3000*n+3000*n:=by omega
   omega
  ·rw[Zh (by omega) (by omega),d1,d2,show 3000*n+3000*n=(3000+3000)*n by omega,d3,Qi vP,aLn hL.n4]
 have o1:=yz (zL n L)
 have o2:=yz (zL n L')
 have o3:=yz (zL n P)
 generalize yS n L=T at*
 generalize (zL n L).fit=i at*
 generalize (zL n L').fit=j at*
 generalize (zL n P).fit=q at*
 generalize (zL n L).tel=x at*
 generalize (zL n L').tel=y at*
 generalize (zL n P).tel=z at*
 have cs:=ZT x x o1 o1
 rw[decide_eq_true rfl]at cs
 refine qa (c1) ?_
 simp(disch:=omega)only[go_sem]
 refine qa (c2) ?_
 simp(disch:=omega)only[go_sem]
 refine qa (c3) ?_
 simp(disch:=omega)only[go_sem]
 rcases i with _|_<;>rcases j with _|_<;>rcases q with _|_
 rotate_left 7
 ·simp(disch:=omega)only[go_sem]
  refine qa (aeF x y true o1 o2) ?_
  simp(disch:=omega)only[go_sem]
  refine qa (cT) ?_
  simp(disch:=omega)only[go_sem]
  refine qa (c4) ?_
  simp(disch:=omega)only[go_sem]
  cases f7:(x.times y).fit
  ·simp(disch:=omega)only[go_sem,f7]
   refine ql (cs) ?_
   simp(disch:=omega)only[go_sem]
   exact qx
  ·simp(disch:=omega)only[go_sem,f7]
   have cw:=ZT (x.times y).tel z (yz _) o3
   rw[decide_eq_true (hw rfl rfl rfl f7)]at cw
   refine ql (cw) ?_
   simp(disch:=omega)only[go_sem]
   refine ql (cs) ?_
   simp(disch:=omega)only[go_sem]
   exact qx
 all_goals
  simp(disch:=omega)only[go_sem]
  refine qa (aeF x y false o1 o2) ?_
  simp(disch:=omega)only[go_sem]
  refine qa (cT) ?_
  simp(disch:=omega)only[go_sem]
  refine qa (c4) ?_
  simp(disch:=omega)only[go_sem]
  refine ql (cs) ?_
  simp(disch:=omega)only[go_sem]
  exact qx
end Go.Ab
namespace Go.Proofs.YtcobffkepgogiaaGreatDoor
open Go.ChangeShapes Go.WideShapes Go.ChangeAt Go.RowKit Go.Ab
theorem own:ownKnob Tryz.prog.godebug=none:=by kernel_rfl
theorem aoQ:laidOutB Tryz.prog=true:=by kernel_rfl
theorem anW:Tryz.prog.globalNamed "math/bits.deBruijn64tab" =some 1:=by kernel_rfl
theorem aIo:(Tryz.prog.globals[1]?).map (·.type)=some 262:=by kernel_rfl
theorem aIn:Tryz.prog.underlying 262=some (.array 64 5):=by kernel_rfl
theorem aIr:Tryz.prog.underlying 5=some (.int .u8):=by kernel_rfl
theorem aIs:Tryz.prog.cellsOf 5=1:=by kernel_rfl
theorem aIp:Tryz.prog.cellsOf 262=64:=by kernel_rfl
noncomputable def yt:List (String×DataW Unit):=[("math/bits.deBruijn32tab",Rows.laid_math_bits_deBruijn32tab),("math/bits.deBruijn64tab",Rows.laid_math_bits_deBruijn64tab)]
theorem aIq{W:World}(h:laidMetH Tryz.prog yt W):Gd W:=by
 have h':laidMet Tryz.prog yt W:=h
 have h2:laidMet Tryz.prog [("math/bits.deBruijn64tab",Lib.tabData .u8 (Lib.deBruijn64tab.map Int.ofNat))] W:=laidMet.tail h'
 have hT:=Lib.tabIs_of_head anW aIo aIn aIr aIs aIp h2
 intro g l hg
 unfold glb at hg
 split at hg
 ·rename_i e
  subst e
  cases hg
  have hc:∀i,i<Lib.deBruijn64tab.length→W.cell? ⟨1,i,none⟩=some (.int .u8 ((Lib.deBruijn64tab.getD i 0:Nat):Int)):=fun i hi=>by
   have:=hT.cell anW i (by simpa using hi)
   rw[this]
   simp[List.getD,hi]
  exact⟨aeI (hc 0 (by decide)),hc⟩
 ·cases hg
noncomputable def Kx(os:Os):World:=
 let w0:=World.holding Tryz.prog os ⟨#[],#[],[]⟩
 {w0 with heap:=(w0.heap.modify 1 fun
   | .cells _ t frozen=>.cells (Lib.deBruijn64tab.map fun z=>Value.int .u8 (Int.ofNat z)).toArray t frozen
   |o=>o).modify 0 fun
   | .cells _ t frozen=>.cells (Lib.deBruijn32tab.map fun z=>Value.int .u8 (Int.ofNat z)).toArray t frozen
   |o=>o}
theorem Yb(os:Os)(args:Array Value):laidMetH Tryz.prog yt ((Kx os).forCall (fun _ _=>0) ⟨#[],args,[]⟩).memory:=
 laidMetH_of_parts (laidMet_of_run' 8 (by kernel_rfl) (by kernel_rfl)) (by kernel_rfl)
end Go.Proofs.YtcobffkepgogiaaGreatDoor
