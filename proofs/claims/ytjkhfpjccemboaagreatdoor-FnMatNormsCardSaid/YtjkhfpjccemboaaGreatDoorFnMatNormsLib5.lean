/- What the proof of this claim stands on: the walks of the functions and the plain laws, part 5. -/
import Derived.Test.YtjkhfpjccemboaaGreatDoorFnMatNormsLib4
import Derived.Test.YtjkhfpjccemboaaGreatDoorRows
import Derived.Test.YtjkhfpjccemboaaGreatDoorCards
import Derived.Test.YtjkhfpjccemboaaGreatDoorTie
import Derived.Handed
import Derived.ChangeSame
import Derived.JoinedOf
import Derived.RowKit
import Derived.WalkKit
import Derived.ProofKit
import Derived.OpenShut
import Derived.LaidLaws
import Derived.LaidHandle
import Derived.SevenTiedAt
import Derived.Stop.LaidErr
import Derived.Lib.LaidTab
set_option linter.unusedVariables false
set_option linter.unusedSimpArgs false
namespace Go.Ab
open Go Go.Proofs
instance (lo hi:Int)(x:ExV):Decidable (x.bd lo hi):=inferInstanceAs (Decidable ((x.m=0→x.s=false)∧lo≤x.e∧(bl x.m:Int)+x.e≤hi))
instance (lo hi:Int)(x:SpV):Decidable (x.bd lo hi):=inferInstanceAs (Decidable (x.lo.bd lo hi∧x.hi.bd lo hi))
instance (lo hi:Int)(l:List ExV):Decidable (gbd lo hi l):=inferInstanceAs (Decidable (∀x∈l,x.bd lo hi))
instance (lo hi:Int)(l:List SpV):Decidable (sbd lo hi l):=inferInstanceAs (Decidable (∀x∈l,x.bd lo hi))
def hB:List SpV:=(qY 1 [ex0] (ex1.shift 0)).map ptS
def hSt:Nat→List SpV×List SpV
 |0=>((gId 1).map ptS,(gId 1).map ptS)
 |i+1=>(KW (hSt i).1 ((jM 1 (hSt i).2 hB).map fun s=>s.divd (i+1) (-22)),(jM 1 (hSt i).2 hB).map fun s=>s.divd (i+1) (-22))
def aMl:List SpV:=(hSt 7).1.map fun s=>s.fat (ex1.shift (-22))
def aEh:List SpV:=aMl.map fun s=>s.out (-14)
theorem ZN:∀i,(hSt i).1.length=1∧(hSt i).2.length=1
 |0=>by decide+kernel
 |i+1=>⟨KU.trans (ZN i).1,by show(List.map _ _).length=1;rw[List.length_map];exact ZO⟩
theorem ao4:∀i,i<8→sbd (-100000) 100000 (hSt i).1∧sbd (-100000) 100000 (hSt i).2∧sbd (-100000) 100000 (jM 1 (hSt i).2 hB):=by decide+kernel
theorem bcp:tmF 22=7:=by decide+kernel
set_option maxRecDepth 100000 in
theorem aqb(n:Nat)(h1:n=1):Con Tryz.prog 148 false [.ag [.v (.int .i64 (n)),.sl ([ex0]).length (qp ExV.cs ([ex0]))],.v (.int .i64 (-10))] [] (isA (.ag [.v (.int .i64 (n)),.sl (aEh).length (qp SpV.cs (aEh))])):=by
 refine Con.frzA ?_
 have hn:n≤4:=by omega
 have cn:=Ze n [ex0] hn (by rw[h1];rfl) (by decide+kernel)
 rw[show q8 n [ex0] n=ex0 by rw[h1];decide+kernel]at cn
 have cz:Con Tryz.prog 193 true [.ag [.v (.bool (ex0).s),.sl (lim (ex0).m).length (qb (lim (ex0).m)),.v (.int .i64 (ex0).e)]] [] (isA (.v (.bool true))):=JT ex0.s ex0.m ex0.e
 have cs:=QC ex1 0 (by decide) (by decide)
 have cg:=Z2 n [ex0] (ex1.shift 0) hn (by rw[h1];rfl) (by decide+kernel) (by decide+kernel)
 have cf:=Z3 n (qY n [ex0] (ex1.shift 0)) (by show(gl _ _ _).length≤_;rw[ja,h1];decide)
 rw[show(qY n [ex0] (ex1.shift 0)).map ptS=hB by rw[h1];rfl]at cf
 have ci:=aLm n hn
 have cfi:=Z3 n (gId n) (by show(gl _ _ _).length≤_;rw[ja,h1];decide)
 rw[show(gId n).map ptS=(hSt 0).1 by rw[h1];rfl]at cfi
 have ct:Con Tryz.prog 225 true [.v (.int .i64 (-22))] [] (isA (.v (.int .i64 7))):=by have:=apF 22 (by omega);rw[bcp]at this;exact this
 have hw:(-10-2*0-12:Int)= -22:=rfl
 have cs2:=QC ex1 (-22) (by decide) (by decide)
 have cft:=aCs n (hSt 7).1 (ex1.shift (-22)) (by rw[(ZN 7).1];decide) (jU (ao4 7 (by decide)).1 (by omega) (by omega)) (by decide+kernel)
 change Con _ _ _ _ _ (isA (.ag [.v (.int .i64 (n)),.sl (aMl).length (qp SpV.cs (aMl))]))at cft
 have cot:=aCr n aMl (-14) (by show(List.map _ _).length≤_;rw[List.length_map,(ZN 7).1];decide) (by decide+kernel) (by omega)
 change Con _ _ _ _ _ (isA (.ag [.v (.int .i64 (n)),.sl (aEh).length (qp SpV.cs (aEh))]))at cot
 generalize qY n [ex0] (ex1.shift 0)=G at*
 generalize gId n=I at*
 refine Con.of_w (rs:=[.cell 4 157]) Tryz.func148 rfl Tryz.ntmps148 rfl ?_
 simp(disch:=omega)only[go_sem]
 refine qa (cn) ?_
 simp(disch:=omega)only[go_sem]
 refine ql (cz) ?_
 simp(disch:=omega)only[go_sem]
 rw[hw]
 refine qs rfl [⟨0,[],[]⟩,⟨2,[0],[]⟩,⟨3,[0],[]⟩,⟨7,[0],[]⟩,⟨1,[0],[100000000]⟩,⟨4,[0],[100000000]⟩,⟨5,[],[100000000]⟩,⟨6,[],[100000000]⟩,⟨8,[],[]⟩] (by kernel_rfl) ?_
 simp(disch:=omega)only[go_sem]
 refine qa (YE) ?_
 simp(disch:=omega)only[go_sem]
 refine qa (cs) ?_ (by simp(disch:=omega)only[go_sem,show(0-0:Int)=0 from rfl])
 simp(disch:=omega)only[go_sem]
 refine qa (cg) ?_
 simp(disch:=omega)only[go_sem]
 refine qa (cf) ?_
 simp(disch:=omega)only[go_sem]
 refine qa (ci) ?_
 simp(disch:=omega)only[go_sem]
 refine qa (cfi) ?_
 simp(disch:=omega)only[go_sem]
 refine qj (fun i:Nat=>[(1,.v (.int .i64 (-10))),(4,.pt 0 0),(6,.v (.int .i64 0)),(7,.v (.int .i64 (-22))),(8,.pt 1 0),(9,.pt 2 0),(10,.pt 3 0),(11,.v (.int .i64 ((i:Int)+1)))])
  (fun i=>[(0,.own 0 [.v (.int .i64 0),.v (.slice none 0 0)]),(1,.own 0 [.v (.int .i64 n),.sl hB.length (qp SpV.cs hB)]),(2,.own 0 [.v (.int .i64 n),.sl (hSt i).1.length (qp SpV.cs (hSt i).1)]),(3,.own 0 [.v (.int .i64 n),.sl (hSt i).2.length (qp SpV.cs (hSt i).2)])])
  (fun i=>i≤7) (fun i=>7-i) 0 (by omega)
  (Le.lst [(0,60000000),(1,100000000),(2,110000000),(3,120000000)] _ _ rfl (by simp(disch:=omega)only[go_sem,show(0:Int)+1=1 from rfl]) (by simp(disch:=omega)only[go_sem,show(hSt 0).2=(hSt 0).1 from rfl])) ?_
 intro i hi
 obtain⟨b1,b2,b3⟩:=ao4 i (by omega)
 obtain⟨l1,l2⟩:=ZN i
 have ei:(i:Int)+1=((i+1:Nat):Int):=by omega
 have hBl:hB.length=1:=by decide+kernel
 have hBb:sbd (-190000) 190000 hB:=by decide+kernel
 have cT:=ajs n (hSt i).2 hB hn (by rw[h1,l2]) (by rw[h1,hBl]) (jU b2 (by omega) (by omega)) hBb
 rw[show jM n (hSt i).2 hB=jM 1 (hSt i).2 hB by rw[h1]]at cT
 have hTl:(jM 1 (hSt i).2 hB).length=1:=ZO
 have cD:=aCt n (jM 1 (hSt i).2 hB) (i+1) (-22) (by omega) b3 (by omega) (by omega) (by omega)
 rw[←ei]at cD
 change Con _ _ _ _ _ (isA (.ag [.v (.int .i64 (n)),.sl ((hSt (i+1)).2).length (qp SpV.cs ((hSt (i+1)).2))]))at cD
 simp(disch:=omega)only[go_sem]
 refine ql (ct) ?_
 simp(disch:=omega)only[go_sem]
 refine qe (fun h2=>?_) (fun h2=>?_)
 ·have b4:=(ao4 (i+1) (by omega)).2.1
  have cP:=aqe n (hSt i).1 (hSt (i+1)).2 (by omega) (by rw[l1];exact(ZN (i+1)).2) (jU b1 (by omega) (by omega)) (jU b4 (by omega) (by omega))
  change Con _ _ _ _ _ (isA (.ag [.v (.int .i64 (n)),.sl ((hSt (i+1)).1).length (qp SpV.cs ((hSt (i+1)).1))]))at cP
  generalize jM 1 (hSt i).2 hB=T at*
  generalize hS2:(hSt (i+1)).2=S2 at*
  generalize hS1:(hSt (i+1)).1=S1 at*
  simp(disch:=omega)only[go_sem,h2]
  refine qa (cT) ?_
  simp(disch:=omega)only[go_sem]
  refine qa (cD) ?_
  simp(disch:=omega)only[go_sem]
  refine qa (cP) ?_
  simp(disch:=omega)only[go_sem]
  exact qc (i+1) [] (by show i+1≤7;omega) (by show 7-(i+1)<7-i;omega) rfl (by simp(disch:=omega)only[go_sem];try omega) (by simp(disch:=omega)only[go_sem,hS1,hS2])
 ·obtain rfl:i=7:=by omega
  simp(disch:=omega)only[go_sem,h2]
  refine qs rfl [⟨0,[],[]⟩,⟨2,[0],[]⟩,⟨1,[0],[]⟩,⟨3,[0],[]⟩,⟨4,[],[]⟩,⟨5,[],[]⟩] (by kernel_rfl) ?_
  simp(disch:=omega)only[go_sem]
  refine qa (YE) ?_
  simp(disch:=omega)only[go_sem]
  refine qa (cs2) ?_
  simp(disch:=omega)only[go_sem]
  refine qa (cft) ?_
  simp(disch:=omega)only[go_sem]
  refine qj (fun _:Nat=>[(1,.v (.int .i64 (-10))),(4,.pt 0 0),(9,.pt 2 0),(58,.v (.int .i64 0)),(59,.v (.int .i64 0))])
   (fun _=>[(0,.own 0 [.v (.int .i64 0),.v (.slice none 0 0)]),(2,.own 0 [.v (.int .i64 n),.sl aMl.length (qp SpV.cs aMl)])]) (fun _=>True) (fun _=>0) 0 trivial (Le.lst [] _ _ rfl (by simp(disch:=omega)only[go_sem]) (by simp(disch:=omega)only[go_sem])) ?_
  intro _ _
  have q:decide ((0:Int)<0)=false:=rfl
  simp(disch:=omega)only[go_sem,q]
  refine qa (cot) ?_ (by simp(disch:=omega)only[go_sem,show(-10-4:Int)= -14 from rfl])
  simp(disch:=omega)only[go_sem]
  exact qi
end Go.Ab
namespace Go.Ab
open Go Go.Proofs
section
variable (g:Nat)(p:DyV→Bool)
theorem ajx(x:DyV)(hf:Con Tryz.prog g true [.ag x.cs] [] (isA (.v (.bool (p x)))))(hg:qo Tryz.prog g=True):
  Con Tryz.prog 283 true [.ag x.cs,.fp [.fn g []] 0] [] (isA (.v (.bool (!p x)))):=by
 unfold DyV.cs at hf ⊢
 refine Con.of_w (rs:=[.tmp 3]) Tryz.func283 rfl Tryz.ntmps283 rfl ?_
 simp(disch:=omega)only[go_sem,hg]
 refine qA hf (by simp(disch:=omega)only[go_sem]) ?_
 rintro r hs ⟨rfl,rfl,_⟩
 refine⟨by simp[qM],?_⟩
 simp(disch:=omega)only[go_sem]
 exact qx
theorem adO(f:Nat)(caps:List AV)(xs:List DyV)(hl:xs.length≤2^40)(hf:∀x∈xs,Con Tryz.prog f true (.ag x.cs::caps) [] (isA (.v (.bool (p x)))))(hg:qo Tryz.prog f=True)
  (hc:∀h:Nat→Ob,caps.map (qE h 6)=caps) (hc5:∀h:Nat→Ob,caps.map (qE h 5)=caps) (hn:∀ks,AllL (j7 ks) caps) (hr:∀ρ,zJ ρ caps=caps):
  Con Tryz.prog 304 true [.sl xs.length (qp DyV.cs xs),.fn f caps] [] (fun r hs bs=>∃i:Int,r=.v (.int .i64 i)∧hs=[]∧(0≤i↔∃x∈xs,p x=true)):=by
 refine Con.of_aw Tryz.func304 rfl Tryz.ntmps304 (by simp) (by simp) (by simp) (W.sound ?_)
 show @W Tryz.prog 19 ⟨_⟩ ⟨fun x σ=>@q7 _ _ _ ⟨_⟩ _ ⟨_⟩ x σ⟩ _ _
 simp(disch:=omega)only[go_sem]
 refine qj (fun i:Nat=>[(0,.sl xs.length (qp DyV.cs xs)),(1,.fn f caps),(6,.sl xs.length (qp DyV.cs xs)),(7,.v (.int .i64 xs.length)),(8,.v (.int .i64 i))])
  (fun _=>[]) (fun i=>i≤xs.length∧∀j,j<i→p (xs.getD j ⟨false,[],0⟩)=false) (fun i=>xs.length-i) 0 ⟨by omega,fun j hj=>by omega⟩ (Le.lst [] _ _ rfl (by simp(disch:=omega)only[go_sem,hr,hn]) (by simp(disch:=omega)only[go_sem])) ?_
 rintro i ⟨hi,hp⟩
 simp(disch:=omega)only[go_sem]
 refine qe (fun h1=>?_) (fun h1=>?_)
 ·have hcut:=ada (l:=xs) aeF (i:=i) (by omega) ⟨false,[],0⟩
  simp(disch:=omega)only[go_sem,h1,hcut,hg]
  refine⟨by omega,by omega,qA (hf (xs.getD i ⟨false,[],0⟩) (by rw[List.getD_eq_getElem?_getD,List.getElem?_eq_getElem (by omega)];exact List.getElem_mem _)) (by simp(disch:=omega)only[go_sem,hc,hc5]) ?_⟩
  rintro r hs ⟨rfl,rfl,_⟩
  refine⟨by simp[qM],?_⟩
  simp(disch:=omega)only[go_sem]
  refine yP (fun h2=>?_) (fun h2=>?_)
  ·simp(disch:=omega)only[go_sem,h2]
   refine qz (by simp(disch:=omega)only[go_sem]) (by simp(disch:=omega)only[go_sem]) ⟨i,rfl,rfl,?_⟩
   refine⟨fun _=>⟨_,?_,h2⟩,fun _=>by omega⟩
   rw[List.getD_eq_getElem?_getD,List.getElem?_eq_getElem (by omega)];exact List.getElem_mem _
  ·simp(disch:=omega)only[go_sem,h2]
   refine qc (i+1) [] ⟨by omega,fun j hj=>?_⟩ (by show xs.length-(i+1)<xs.length-i;omega) rfl (by simp(disch:=omega)only[go_sem,hr,hn];try omega) (by simp(disch:=omega)only[go_sem])
   rcases(by omega:j<i∨j=i)with h|h
   ·exact hp j h
   ·subst h;exact h2
 ·simp(disch:=omega)only[go_sem,h1]
  refine qz (by simp(disch:=omega)only[go_sem]) (by simp(disch:=omega)only[go_sem]) ⟨-1,rfl,rfl,?_⟩
  refine⟨fun h=>by omega,fun⟨x,hx,hpx⟩=>?_⟩
  obtain⟨j,hj,rfl⟩:=List.getElem_of_mem hx
  have:=hp j (by omega)
  rw[List.getD_eq_getElem?_getD,List.getElem?_eq_getElem hj]at this
  simp only[Option.getD_some]at this
  rw[this]at hpx;cases hpx
theorem Jl(f:Nat)(caps:List AV)(xs:List DyV)(hl:xs.length≤2^40)(hf:∀x∈xs,Con Tryz.prog f true (.ag x.cs::caps) [] (isA (.v (.bool (p x)))))(hg:qo Tryz.prog f=True)
  (hc:∀h:Nat→Ob,caps.map (qE h 6)=caps) (hc5:∀h:Nat→Ob,caps.map (qE h 5)=caps) (hn:∀ks,AllL (j7 ks) caps) (hr:∀ρ,zJ ρ caps=caps):
  Con Tryz.prog 282 true [.sl xs.length (qp DyV.cs xs),.fn f caps] [] (isA (.v (.bool (xs.any p)))):=by
 refine Con.of_aw Tryz.func282 rfl Tryz.ntmps282 (by simp) (by simp) (by simp) (W.sound ?_)
 show @W Tryz.prog 9 ⟨_⟩ ⟨fun x σ=>@q7 _ _ _ ⟨_⟩ _ ⟨_⟩ x σ⟩ _ _
 simp(disch:=omega)only[go_sem]
 refine qA (adO p f caps xs hl hf hg hc hc5 hn hr) (by simp(disch:=omega)only[go_sem,hc,hc5]) ?_
 rintro r hs ⟨i,rfl,rfl,hi⟩
 refine⟨by simp[qM],?_⟩
 simp(disch:=omega)only[go_sem]
 refine qz (by simp(disch:=omega)only[go_sem]) (by simp(disch:=omega)only[go_sem]) ⟨?_,rfl,rfl⟩
 have:decide (0≤i)=xs.any p:=by rw[Bool.eq_iff_iff,decide_eq_true_eq,hi,List.any_eq_true]
 rw[this];rfl
theorem aqk(xs:List DyV)(hl:xs.length≤2^40)(hf:∀x∈xs,Con Tryz.prog g true [.ag x.cs] [] (isA (.v (.bool (p x)))))(hg:qo Tryz.prog g=True):
  Con Tryz.prog 238 true [.sl xs.length (qp DyV.cs xs),.fn g []] [] (isA (.v (.bool (xs.all p)))):=by
 refine Con.of_aw Tryz.func238 rfl Tryz.ntmps238 (by simp) (by simp) (by simp) (W.sound ?_)
 show @W Tryz.prog 9 ⟨_⟩ ⟨fun x σ=>@q7 _ _ _ ⟨_⟩ _ ⟨_⟩ x σ⟩ _ _
 simp(disch:=omega)only[go_sem]
 refine qA (Jl (fun x=> !p x) 283 [.fp [.fn g []] 0] xs hl (fun x hx=>ajx g p x (hf x hx) hg) (by simp(disch:=omega)only[go_sem]) (fun h=>rfl) (fun h=>rfl) (fun ks=>by simp(disch:=omega)only[go_sem]) (fun ρ=>rfl)) (by simp(disch:=omega)only[go_sem]) ?_
 rintro r hs ⟨rfl,rfl,_⟩
 refine⟨by simp[qM],?_⟩
 simp(disch:=omega)only[go_sem]
 refine qz (by simp(disch:=omega)only[go_sem]) (by simp(disch:=omega)only[go_sem]) ⟨?_,rfl,rfl⟩
 have:(!xs.any fun x=> !p x)=xs.all p:=by rw[List.all_eq_not_any_not]
 rw[this];rfl
end
def DyV.ok(x:DyV):Bool:=dyB x.s x.xs x.e
theorem ajw(xs:List DyV)(hl:xs.length≤2^40)(hx:∀x∈xs,x.xs.length≤2^40):Con Tryz.prog 161 true [.sl xs.length (qp DyV.cs xs)] [] (isA (.v (.bool (xs.all DyV.ok)))):=by
 refine Con.of_w (rs:=[.tmp 2]) Tryz.func161 rfl Tryz.ntmps161 rfl ?_
 simp(disch:=omega)only[go_sem]
 refine ql (aqk 63 DyV.ok xs hl (fun x h=>aeL x.s x.xs x.e (hx x h)) (by simp(disch:=omega)only[go_sem])) ?_
 simp(disch:=omega)only[go_sem]
 exact qx
def adk(n:Int)(l:List DyV):Bool:=(decide (1≤n)&&decide (n≤4))&&(decide ((l.length:Int)=n*n)&&l.all DyV.ok)
theorem aag(n:Int)(l:List DyV)(hl:l.length≤2^40)(hx:∀x∈l,x.xs.length≤2^40):Con Tryz.prog 76 true [.ag [.v (.int .i64 n),.sl l.length (qp DyV.cs l)]] [] (isA (.v (.bool (adk n l)))):=by
 unfold adk
 cases h1:(decide (1≤n)&&decide (n≤4))
 ·rw[Bool.false_and]
  refine Con.of_w (rs:=[.tmp 2]) Tryz.func76 rfl Tryz.ntmps76 rfl ?_
  simp(disch:=omega)only[go_sem]
  refine ql (zU n 1 4) ?_
  simp(disch:=omega)only[go_sem]
  simp(disch:=omega)only[go_sem,h1]
  exact qx
 ·rw[Bool.true_and]
  have h1':1≤n∧n≤4:=by simpa using h1
  have hq:0≤n*n∧n*n≤16:=⟨Int.mul_nonneg (by omega) (by omega),Int.mul_le_mul h1'.2 h1'.2 (by omega) (by omega)⟩
  cases h2:decide ((l.length:Int)=n*n)
  ·rw[Bool.false_and]
   refine Con.of_w (rs:=[.tmp 2]) Tryz.func76 rfl Tryz.ntmps76 rfl ?_
   simp(disch:=omega)only[go_sem]
   refine ql (zU n 1 4) ?_
   simp(disch:=omega)only[go_sem]
   simp(disch:=omega)only[go_sem,h1,h2]
   exact qx
  ·rw[Bool.true_and]
   refine Con.of_w (rs:=[.tmp 2]) Tryz.func76 rfl Tryz.ntmps76 rfl ?_
   simp(disch:=omega)only[go_sem]
   refine ql (zU n 1 4) ?_
   simp(disch:=omega)only[go_sem]
   simp(disch:=omega)only[go_sem,h1,h2]
   refine ql (ajw l hl hx) ?_
   simp(disch:=omega)only[go_sem]
   exact qx
end Go.Ab
namespace Go.Ab
open Go Go.Proofs
def ExV.dy(x:ExV):DyV:=⟨x.s,lim x.m,x.e⟩
theorem aD5(l:List ExV):qp ExV.cs l=qp DyV.cs (l.map ExV.dy):=by unfold qp;rw[List.map_map];rfl
def ExV.ok(x:ExV):Bool:=dyB x.s (lim x.m) x.e
def aJP(n:Int)(l:List ExV):Bool:=(decide (1≤n)&&decide (n≤4))&&(decide ((l.length:Int)=n*n)&&l.all ExV.ok)
theorem aJO(n:Int)(l:List ExV):adk n (l.map ExV.dy)=aJP n l:=by
 unfold adk aJP
 rw[List.length_map,List.all_map];rfl
theorem JU(n:Int)(l:List ExV)(hl:l.length≤2^40)(hx:∀x∈l,(lim x.m).length≤2^40):Con Tryz.prog 76 true [.ag [.v (.int .i64 n),.sl l.length (qp ExV.cs l)]] [] (isA (.v (.bool (aJP n l)))):=by
 have:=aag n (l.map ExV.dy) (by rw[List.length_map];exact hl) (fun x h=>by
  obtain⟨y,hy,rfl⟩:=List.mem_map.1 h
  exact hx y hy)
 rw[aJO,←aD5,List.length_map]at this
 exact this
theorem aoq{x:ExV}(h:x.ok=true):x.bd (-3000) 4600:=by
 obtain⟨m,e1,h1,h2,h3,_,h4⟩:=jF h
 have e2:x.m=m:=je e1
 subst e2
 exact⟨h4,by omega,by omega⟩
def aiN(F:List SpV)(X:List ExV)(k:Nat):List ExV:=(List.range k).map fun i=>zn [((F.getD i sp0).hi.plus (X.getD i ex0).neg).abs,((X.getD i ex0).plus (F.getD i sp0).lo.neg).abs]
theorem y5{F:List SpV}{X:List ExV}{k:Nat}:(aiN F X k).length=k:=by simp[aiN]
theorem aos{F:List SpV}{X:List ExV}{k:Nat}:aiN F X (k+1)=aiN F X k++[zn [((F.getD k sp0).hi.plus (X.getD k ex0).neg).abs,((X.getD k ex0).plus (F.getD k sp0).lo.neg).abs]]:=by simp[aiN,List.range_succ]
theorem aor{lo hi:Int}{s:SpV}{x:ExV}(hs:s.bd lo hi)(hx:x.bd lo hi):gbd lo (hi+1) [(s.hi.plus x.neg).abs,(x.plus s.lo.neg).abs]:=by
 intro y hy
 simp only[List.mem_cons,List.not_mem_nil,or_false]at hy
 rcases hy with rfl|rfl
 ·exact ExV.abs_bd (ExV.plus_bd hs.2 (ExV.neg_bd hx))
 ·exact ExV.abs_bd (ExV.plus_bd hx (ExV.neg_bd hs.1))
theorem aJg{lo hi:Int}{F:List SpV}{X:List ExV}{k:Nat}(hF:sbd lo hi F)(hX:gbd lo hi X)(h1:k≤F.length)(h2:k≤X.length):gbd lo (hi+1) (aiN F X k):=by
 intro y hy
 simp only[aiN,List.mem_map,List.mem_range]at hy
 obtain⟨i,hi,rfl⟩:=hy
 exact Zb (aor (jB hF (by omega)) (qW hX (by omega))) (by simp)
def aeB(n:Nat)(F:List SpV)(low:Int):List ExV:=aKh n (F.map adj) low 0
def jN(n:Nat)(F:List SpV)(low:Int):ExV:=q8 n (aiN F (aeB n F low) (n*n)) n
theorem aJM{lo hi:Int}{s:SpV}(hs:s.bd lo hi):(adj s).bd (lo-1) hi:=by
 have:=ExV.shift_bd (k:= -1) (ExV.plus_bd hs.1 hs.2)
 exact this.mono (by omega) (by omega)
theorem aKg{lo hi low mode:Int}{n:Nat}{l:List ExV}(hl:l.length=n*n)(h:gbd lo hi l)(h1:lo≤low)(h2:low≤hi):gbd lo (hi+1) (aKh n l low mode):=
 aBs fun i j hi hj=>ExV.rnd_bd (qW h (by rw[hl];exact zl hi hj)) h1 h2
set_option maxRecDepth 100000 in
set_option maxHeartbeats 2000000 in
theorem adX(n:Nat)(L:List ExV)(low:Int)(F:List SpV)(hn:n≤4)(hL:L.length=n*n)(hlow: -1000≤low∧low≤1000)(ca:Con Tryz.prog 147 true [.ag [.v (.int .i64 (n)),.sl (L).length (qp ExV.cs (L))],.v (.int .i64 low)] [] (isA (.v (.bool true))))
  (ch:Con Tryz.prog 148 false [.ag [.v (.int .i64 (n)),.sl (L).length (qp ExV.cs (L))],.v (.int .i64 low)] [] (isA (.ag [.v (.int .i64 (n)),.sl (F).length (qp SpV.cs (F))]))) (hF:F.length=n*n) (hFb:sbd (-300000) 300000 F) (hfit:F.all SpV.fit=true):
  Con Tryz.prog 70 false [.ag [.v (.int .i64 (n)),.sl (L).length (qp ExV.cs (L))],.v (.int .i64 low)] []
   (isA (if((aeB n F low).all ExV.fit&&(jN n F low).fit)=true then .tu [.ag [.v (.int .i64 n),.sl (aeB n F low).length (qp ExV.cs ((aeB n F low).map ExV.can))],.ag [.v (.bool ((jN n F low).can).s),.sl (lim ((jN n F low).can).m).length (qb (lim ((jN n F low).can).m)),.v (.int .i64 ((jN n F low).can).e)],.v (.bool true)]else .tu [.ag [.v (.int .i64 0),.sl 0 []],.ag [.v (.bool (false)),.sl (lim (0)).length (qb (lim (0))),.v (.int .i64 (0))],.v (.bool false)])):=by
 refine Con.frzA ?_
 have hq:=yY hn
 have cg:=zp n L (by omega)
 have cv:=aqa n F (by omega) (jU hFb (by omega) (by omega))
 rw[hfit,if_pos rfl]at cv
 have cm:=aLj n F (by omega) (jU hFb (by omega) (by omega))
 have hml:(F.map adj).length=n*n:=by rw[List.length_map,hF]
 have hmb:gbd (-300001) 300000 (F.map adj):=by
  intro x hx
  obtain⟨s,hs,rfl⟩:=List.mem_map.1 hx
  exact(aJM (hFb s hs)).mono (by omega) (by omega)
 have cr:=aCo n (F.map adj) low 0 hn hml (jz hmb (by omega) (by omega)) (by omega)
 have hXl:(aeB n F low).length=n*n:=by unfold aeB aKh;exact ja
 have hXb:gbd (-300001) 300001 (aeB n F low):=aKg hml hmb (by omega) (by omega)
 change Con _ _ _ _ _ (isA (.ag [.v (.int .i64 (n)),.sl (aeB n F low).length (qp ExV.cs (aeB n F low))]))at cr
 have hOb:gbd (-300001) 300002 (aiN F (aeB n F low) (n*n)):=aJg (jU hFb (by omega) (by omega)) hXb (by omega) (by omega)
 have cno:=Ze n (aiN F (aeB n F low) (n*n)) hn y5 (jz hOb (by omega) (by omega))
 change Con _ _ _ _ _ (isA (.ag [.v (.bool (jN n F low).s),.sl (lim (jN n F low).m).length (qb (lim (jN n F low).m)),.v (.int .i64 (jN n F low).e)]))at cno
 have hFar:(jN n F low).bd (-300001) 300006:=(Q9 y5 hOb (by omega) n (Nat.le_refl _)).mono (by omega) (by omega)
 have cw:=Jk n (aeB n F low) (jN n F low) (by omega) (jz hXb (by omega) (by omega)) (hFar.mono (by omega) (by omega))
 generalize jN n F low=far at*
 generalize aeB n F low=X at*
 generalize F.map adj=M at*
 generalize F.map SpV.can=FC at*
 refine Con.of_w (rs:=[.cell 4 42,.cell 5 29,.tmp 6]) Tryz.func70 rfl Tryz.ntmps70 rfl ?_
 simp(disch:=omega)only[go_sem]
 refine ql (ca) ?_
 simp(disch:=omega)only[go_sem]
 refine qa (cg) ?_
 simp(disch:=omega)only[go_sem]
 refine qa (ch) ?_
 simp(disch:=omega)only[go_sem]
 refine qa (cv) ?_
 simp(disch:=omega)only[go_sem]
 refine qa (cm) ?_
 simp(disch:=omega)only[go_sem]
 refine qa (cr) ?_
 simp(disch:=omega)only[go_sem]
 refine qj (fun i:Nat=>[(4,.pt 2 0),(5,.pt 3 0),(7,.pt 4 0),(10,.pt 5 0),(11,.pt 0 0),(41,.sl F.length (qp SpV.cs F)),(42,.v (.int .i64 F.length)),(43,.v (.int .i64 i))])
  (fun i=>[(0,.own 0 [.v (.int .i64 n),.rf 1 0 i]),(1,.own 3 (qp ExV.cs (aiN F X i))),(2,.own 0 [.v (.int .i64 0),.v (.slice none 0 0)]),(3,.own 0 [.v (.bool false),.v (.slice none 0 0),.v (.int .i64 0)]),(4,.own 0 [.v (.int .i64 n),.sl F.length (qp SpV.cs F)]),(5,.own 0 [.v (.int .i64 n),.sl X.length (qp ExV.cs X)])])
  (fun i=>i≤F.length) (fun i=>F.length-i) 0 (by omega)
  ((Le.ghostC 130000000 1 1 3 (zo:=0) (cs:=[.v (.int .i64 n),.v (.slice none 0 0)]) (by simp(disch:=omega)only[go_sem]) rfl (by simp(disch:=omega)only[go_sem])).trans (Le.lst [(0,130000000),(2,60000000),(3,70000000),(4,90000000),(5,120000000)] _ _ rfl (by simp(disch:=omega)only[go_sem]) (by simp(disch:=omega)only[go_sem,show aiN F X 0=[] from rfl,ZT,List.set_cons_succ,List.set_cons_zero]))) ?_
 intro i hi
 simp(disch:=omega)only[go_sem]
 refine qe (fun h1=>?_) (fun h1=>?_)
 ·have hi2:i<F.length:=by omega
  have hci:=yJ hi2
  have hcx:=jr (l:=X) (i:=i) (by omega)
  have hcut:=zF (y5 (F:=F) (X:=X) (k:=i))
  have hs:=aos (F:=F) (X:=X) (k:=i)
  have bs:=jB hFb hi2
  have bx:=qW hXb (show i<X.length by omega)
  have b2:=aor (SpV.bd.mono bs (by omega) (by omega)) bx
  generalize F.getD i sp0=s at*
  generalize X.getD i ex0=x at*
  simp(disch:=omega)only[go_sem,h1,hci]
  refine⟨by omega,by omega,?_⟩
  refine qs rfl [⟨0,[],[]⟩,⟨1,[],[]⟩,⟨2,[1],[]⟩,⟨3,[1],[]⟩,⟨4,[1,3],[]⟩,⟨5,[1,3],[]⟩,⟨6,[1,3,5],[]⟩,⟨7,[1,3],[]⟩,⟨8,[1,3],[]⟩,⟨11,[1,3,5,8],[]⟩,⟨12,[1,3,5,8],[]⟩,⟨13,[1,3,5,8,12],[]⟩,⟨14,[1,3,5,8],[]⟩,⟨15,[1,3,5,8],[]⟩,⟨16,[1,3,5,8,12,15],[]⟩,⟨17,[1,3,5,8,12,15],[]⟩,⟨9,[1,12,15,17],[]⟩,⟨10,[1,12,15,17],[]⟩,⟨18,[1],[]⟩,⟨19,[1],[]⟩,⟨20,[1],[]⟩,⟨21,[1],[]⟩,⟨22,[1],[]⟩,⟨23,[],[]⟩,⟨24,[],[]⟩,⟨25,[],[]⟩] (by kernel_rfl) ?_
  simp(disch:=omega)only[go_sem,hcx]
  refine⟨by omega,by omega,by omega,by omega,?_⟩
  refine qa (QE s.hi x (bs.2.mono (by omega) (by omega)) (bx.mono (by omega) (by omega))) ?_
  simp(disch:=omega)only[go_sem]
  refine qa (YL (s.hi.plus x.neg)) ?_
  simp(disch:=omega)only[go_sem]
  refine qa (QE x s.lo (bx.mono (by omega) (by omega)) (bs.1.mono (by omega) (by omega))) ?_
  simp(disch:=omega)only[go_sem]
  refine qa (YL (x.plus s.lo.neg)) ?_
  simp(disch:=omega)only[go_sem]
  generalize (s.hi.plus x.neg).abs=A at*
  generalize (x.plus s.lo.neg).abs=B at*
  have hrow:([.v (.bool A.s),.sl (lim A.m).length (qb (lim A.m)),.v (.int .i64 A.e),.v (.bool B.s),.sl (lim B.m).length (qb (lim B.m)),.v (.int .i64 B.e)]:List AV)=qp ExV.cs [A,B]:=rfl
  rw[hrow]
  refine q9 false [700000000] (K1 [A,B] (by simp) (by simp) (jz b2 (by omega) (by omega))) (by simp(disch:=omega)only[go_sem]) (by simp(disch:=omega)only[go_sem]) rfl (qR (z:=3) (cs:=qp ExV.cs [A,B]) (by simp(disch:=omega)only[go_sem]) (by simp(disch:=omega)only[go_sem])) (by intro n hn;exact⟨_,List.mem_cons_self ..,by rw[List.mem_singleton.1 hn];rfl⟩) ?_
  rintro r hs2 bs2 ⟨rfl,rfl,rfl⟩-
  refine⟨by simp[qM],?_⟩
  simp(disch:=omega)only[go_sem,hcut,Qf]
  refine⟨⟨by rw[y5];exact Nat.le_refl _,by omega⟩,qc (i+1) [(1,730000000)] (by show i+1≤_;omega) (by show F.length-(i+1)<F.length-i;omega) rfl (by simp(disch:=omega)only[go_sem];try omega) (by simp(disch:=omega)only[go_sem,hs])⟩
 ·simp(disch:=omega)only[go_sem,h1]
  obtain rfl:i=F.length:=by omega
  have hol:=y5 (F:=F) (X:=X) (k:=n*n)
  rw[hF]
  generalize aiN F X (n*n)=O at*
  rw[hol]at cno
  refine aLg (E:=[(4,.pt 2 0),(5,.pt 3 0),(10,.pt 5 0),(11,.pt 0 0)]) (H:=[(0,.own 0 [.v (.int .i64 n),.sl (n*n) (qp ExV.cs O)]),(2,.own 0 [.v (.int .i64 0),.v (.slice none 0 0)]),(3,.own 0 [.v (.bool false),.v (.slice none 0 0),.v (.int .i64 0)]),(5,.own 0 [.v (.int .i64 n),.sl X.length (qp ExV.cs X)])])
   ((Le.frz 1 (z:=3) (ks:=qp ExV.cs O) (by simp(disch:=omega)only[go_sem]) rfl (by simp(disch:=omega)only[go_sem])).trans (Le.lst [] _ _ rfl (by simp(disch:=omega)only[go_sem]) (by simp(disch:=omega)only[go_sem,zF hol]))) ?_
  refine qs rfl [⟨0,[],[]⟩,⟨1,[0],[]⟩,⟨2,[0],[]⟩,⟨3,[],[]⟩,⟨4,[],[]⟩,⟨5,[],[]⟩,⟨6,[],[]⟩,⟨7,[],[]⟩,⟨8,[],[]⟩,⟨9,[],[]⟩] (by kernel_rfl) ?_
  simp(disch:=omega)only[go_sem]
  refine qa (cno) ?_
  simp(disch:=omega)only[go_sem]
  cases hc:(X.all ExV.fit&&far.fit)
  ·rw[hc,if_neg (by simp)]at cw
   rw[if_neg (by simp)]
   refine qa (cw) ?_
   simp(disch:=omega)only[go_sem]
   exact qi (hp:=by simp(disch:=omega)only[go_sem,qm,List.length_nil,ji])
  ·rw[hc,if_pos rfl]at cw
   rw[if_pos rfl]
   refine qa (cw) ?_
   simp(disch:=omega)only[go_sem]
   exact qi
theorem K7(n:Nat)(h1:n=1):Con Tryz.prog 147 true [.ag [.v (.int .i64 (n)),.sl ([ex0]).length (qp ExV.cs ([ex0]))],.v (.int .i64 (-10))] [] (isA (.v (.bool true))):=by
 have cm:=JU n [ex0] (by decide) (by intro x hx;rw[List.mem_singleton.1 hx];show(lim 0).length≤_;rw[qm];decide)
 have hm:aJP n [ex0]=true:=by
  rw[h1];unfold aJP;rw[List.all_cons,List.all_nil,show ex0.ok=true by show dyB false (lim 0) 0=true;rw[qm];decide];decide
 rw[hm]at cm
 have cg:=zp n [ex0] (by decide)
 have cn:=Ze n [ex0] (by omega) (by rw[h1];rfl) (by decide+kernel)
 rw[show q8 n [ex0] n=ex0 by rw[h1];decide+kernel]at cn
 have cc:=Zg ex0 (exN 64) (by decide+kernel) (by decide+kernel)
 rw[show ex0.cmp (exN 64)= -1 by decide+kernel]at cc
 have q:decide ((-1:Int)≤0)=true:=rfl
 have q1:(decide ((-120:Int)≤ -10)&&decide ((-10:Int)≤0))=true:=rfl
 have cwi:=zU (-10) (-120) 0
 rw[q1]at cwi
 refine Con.of_w (rs:=[.tmp 4]) Tryz.func147 rfl Tryz.ntmps147 rfl ?_
 simp(disch:=omega)only[go_sem]
 refine ql (cm) ?_
 simp(disch:=omega)only[go_sem]
 refine ql (cwi) ?_
 simp(disch:=omega)only[go_sem]
 refine qa (cg) ?_
 simp(disch:=omega)only[go_sem]
 refine qa (cn) ?_
 simp(disch:=omega)only[go_sem]
 refine qa (zv 64 (by omega)) ?_
 simp(disch:=omega)only[go_sem]
 refine qA cc (by simp(disch:=omega)only[go_sem,exN]) ?_
 rintro r hs ⟨rfl,rfl,_⟩
 refine⟨by simp[qM],?_⟩
 simp(disch:=omega)only[go_sem,q]
 exact qx
end Go.Ab
namespace Go.Ab
open Go Go.Proofs
theorem jm(cl:Bool)(xs:List Int)(m:Nat)(hl:xs.length≤2^39)(hx:gd xs)(hv:vl xs=(m:Int)):Con Tryz.prog 259 cl [.sl xs.length (qb xs)] [] (aBa m):=by
 refine Con.of_aw Tryz.func259 rfl Tryz.ntmps259 (by simp) (by simp) (by simp) (W.sound ?_)
 show @W Tryz.prog 24 ⟨_⟩ ⟨fun x σ=>@q7 _ _ _ ⟨_⟩ _ ⟨_⟩ x σ⟩ _ _
 simp(disch:=omega)only[go_sem]
 have hcz:ZX xs=lim m:=by rw[zX hx,hv,Int.toNat_natCast]
 refine qj (fun k:Nat=>[(0,.sl xs.length (qb xs)),(2,.pt 40000000 0),(3,.v (.int .i64 k))]) (fun _=>[(40000000,.own 0 [.v (.slice none 0 0)])]) (fun k=>k≤xs.length∧ZX (xs.take k)=ZX xs) id xs.length ⟨Nat.le_refl _,by simp⟩
  (Le.lst [] _ _ rfl (by simp(disch:=omega)only[go_sem]) (by simp(disch:=omega)only[go_sem])) ?_
 intro k ⟨hk,hc⟩
 have hkx:∀j,j+1=k→xs.take k=xs.take j++[xs.getD j 0]:=fun j hj=>by rw[←hj];exact jH (by omega)
 simp(disch:=omega)only[go_sem]
 refine qe (fun h1=>?_) (fun h1=>?_)
 ·obtain⟨j,rfl⟩:∃j,k=j+1:=⟨k-1,by omega⟩
  have e1:((j+1:Nat):Int)-1=(j:Nat):=by omega
  rw[hkx j rfl]at hc
  simp(disch:=omega)only[go_sem,h1,e1]
  refine⟨by omega,by omega,qe (fun h2=>?_) (fun h2=>?_)⟩
  ·simp(disch:=omega)only[go_sem,h2,e1]
   rw[h2,Qg]at hc
   exact qc j [] ⟨by omega,hc⟩ (by show j<j+1;omega) rfl (by simp(disch:=omega)only[go_sem];try omega) (by simp(disch:=omega)only[go_sem])
  ·rw[YA _ h2,←hkx j rfl,hcz]at hc
   have hlm:j+1=(lim m).length:=by rw[←hc,List.length_take];omega
   have e0:(((j+1:Nat):Int)-0).toNat=(lim m).length:=by omega
   rw[hlm]at hc
   simp(disch:=omega)only[go_sem,h2,e0,hc]
   refine⟨by omega,by omega,?_⟩
   refine qg [(0,240000000)] [.own 1 (qb (lim m))] [] [.ag [.rf 0 0 (lim m).length]] rfl (by simp(disch:=omega)only[go_sem]) (by simp(disch:=omega)only[go_sem]) (by simp) (by intro _;simp[zh,AV.pu,AV.pu.puL,Ob.pu,qV]) (.inr ⟨[],rfl,by rw[List.append_nil]⟩)
 ·have hlm:k=(lim m).length:=by
   have:k=0:=by omega
   rw[←hcz,←hc,this];rfl
  subst hlm
  have hc:xs.take (lim m).length=lim m:=by
   have:lim m=[]:=List.length_eq_zero_iff.1 (by omega)
   rw[this];simp
  have e0:(((lim m).length:Int)-0).toNat=(lim m).length:=by omega
  simp(disch:=omega)only[go_sem,h1,e0,hc]
  refine⟨by omega,by omega,?_⟩
  refine qg [(0,240000000)] [.own 1 (qb (lim m))] [] [.ag [.rf 0 0 (lim m).length]] rfl (by simp(disch:=omega)only[go_sem]) (by simp(disch:=omega)only[go_sem]) (by simp) (by intro _;simp[zh,AV.pu,AV.pu.puL,Ob.pu,qV]) (.inr ⟨[],rfl,by rw[List.append_nil]⟩)
theorem YH(cl:Bool)(n:Nat)(hn:n<2^63):Con Tryz.prog 203 cl [.v (.int .i64 n)] [] (aBa n):=by
 refine Con.of_aw Tryz.func203 rfl Tryz.ntmps203 (by simp) (by simp) (by simp) (W.sound ?_)
 show @W Tryz.prog 15 ⟨_⟩ ⟨fun x σ=>@q7 _ _ _ ⟨_⟩ _ ⟨_⟩ x σ⟩ _ _
 simp(disch:=omega)only[go_sem]
 refine qj (fun x:Nat×List Int=>[(0,.v (.int .i64 x.1)),(2,.pt 2 0),(3,.rf 1 0 x.2.length)]) (fun x=>[(1,.own 1 (qb x.2)),(2,.own 0 [.v (.slice none 0 0)])]) (fun x=>x.1<2^63∧x.2++lim x.1=lim n) (fun x=>x.1) (n,[]) ⟨hn,rfl⟩
  ((Le.ghost 3 1 1 (by simp(disch:=omega)only[go_sem]) (by simp(disch:=omega)only[go_sem])).trans (Le.lst [(2,40000000)] _ _ rfl (by simp(disch:=omega)only[go_sem]) (by simp(disch:=omega)only[go_sem]))) ?_
 rintro⟨k,l⟩ ⟨hk,hl⟩
 dsimp only at hk hl ⊢
 have hlen:l.length≤4:=by
  have h1:=congrArg List.length hl
  have h2:=jC (n:=n) (k:=4) |>.2 (by omega)
  rw[List.length_append]at h1;omega
 simp(disch:=omega)only[go_sem]
 refine qe (fun h1=>?_) (fun h1=>?_)
 ·simp(disch:=omega)only[go_sem,h1]
  have hk0:k≠0:=by omega
  refine⟨by omega,qc (k/65536,l++[(k:Int) % 65536]) [(1,120000000)] ⟨by show k/65536<2^63;omega,?_⟩ (by show k/65536<k;omega) rfl (by simp(disch:=omega)only[go_sem,List.length_append];try omega) (by simp(disch:=omega)only[go_sem])⟩
  rw[jY hk0]at hl
  rw[←hl,List.append_assoc];rfl
 ·simp(disch:=omega)only[go_sem,h1]
  have hk0:k=0:=by omega
  subst hk0
  rw[qm,List.append_nil]at hl
  subst hl
  refine qg [(0,1)] [.own 1 (qb (lim n++[]))] [] [.ag [.rf 0 0 (lim n).length]] rfl (by simp(disch:=omega)only[go_sem]) (by simp(disch:=omega)only[go_sem]) (by simp) (by intro _;simp[zh,AV.pu,AV.pu.puL,Ob.pu,qV]) (.inr ⟨[],rfl,rfl⟩)
end Go.Ab
namespace Go.Ab
open Go Go.Proofs
set_option maxRecDepth 100000 in
theorem ap8(cl:Bool)(a b:Nat)(la:(lim a).length≤2000000)(lb:(lim b).length≤2000000):Con Tryz.prog 206 cl [.ag [.sl (lim (a)).length (qb (lim (a)))],.ag [.sl (lim (b)).length (qb (lim (b)))]] [] (aBa (a+b)):=by
 refine Con.of_aw Tryz.func206 rfl Tryz.ntmps206 (by simp) (by simp) (by simp) (W.sound ?_)
 show @W Tryz.prog 61 ⟨_⟩ ⟨fun x σ=>@q7 _ _ _ ⟨_⟩ _ ⟨_⟩ x σ⟩ _ _
 simp(disch:=omega)only[go_sem]
 have hA:=q6 a
 have hB:=q6 b
 refine qj (fun x:Nat×List Int×Int=>[(2,.pt 3 0),(3,.pt 4 0),(4,.pt 2 0),(5,.rf 1 0 x.2.1.length),(6,.v (.int .i64 x.2.2)),(7,.v (.int .i64 x.1))])
  (fun x=>[(1,.own 1 (qb x.2.1)),(2,.own 0 [.v (.slice none 0 0)]),(3,.own 0 [.sl (lim (a)).length (qb (lim (a)))]),(4,.own 0 [.sl (lim (b)).length (qb (lim (b)))])])
  (fun x=>x.1≤max (lim a).length (lim b).length+1∧x.2.1.length=x.1∧gd x.2.1∧(0≤x.2.2∧x.2.2≤1)∧vl x.2.1+65536^x.1*x.2.2=vl ((lim a).take x.1)+vl ((lim b).take x.1)∧(max (lim a).length (lim b).length<x.1→x.2.2=0))
  (fun x=>2*(max (lim a).length (lim b).length-x.1)+x.2.2.toNat) (0,[],0) ⟨by simp,rfl,ZP,by simp,by simp[vl],fun h=>rfl⟩
  ((Le.ghost 5 1 1 (by simp(disch:=omega)only[go_sem]) (by simp(disch:=omega)only[go_sem])).trans (Le.lst [(2,60000000),(3,40000000),(4,50000000)] _ _ rfl (by simp(disch:=omega)only[go_sem]) (by simp(disch:=omega)only[go_sem]))) ?_
 rintro⟨i,out,cy⟩ ⟨hi,hol,hog,hcy,hov,hcz⟩
 dsimp only at hi hol hog hcy hov hcz ⊢
 have hx:=qH hA i
 have hy:=qH hB i
 have hxz:¬(i:Int)<(lim a).length→(lim a).getD i 0=0:=fun h=>by rw[List.getD_eq_getElem?_getD,List.getElem?_eq_none (by omega)];rfl
 have hyz:¬(i:Int)<(lim b).length→(lim b).getD i 0=0:=fun h=>by rw[List.getD_eq_getElem?_getD,List.getElem?_eq_none (by omega)];rfl
 have hstep:∀q:Int,q=cy+(lim a).getD i 0+(lim b).getD i 0→vl (out++[q % 65536])+65536^(i+1)*(q/65536)=vl ((lim a).take (i+1))+vl ((lim b).take (i+1)):=by
  intro q hq
  rw[jn,qO,qO,hol,Int.pow_succ]
  have e3:q % 65536+65536*(q/65536)=q:=Int.emod_add_mul_ediv q 65536
  generalize (65536:Int)^i=Pi at*
  grind
 have key:∀q:Int,q=cy+(lim a).getD i 0+(lim b).getD i 0→(i:Int)<(lim a).length∨(i:Int)<(lim b).length∨0<cy→
   ((i+1≤max (lim a).length (lim b).length+1∧(out++[q % 65536]).length=i+1∧gd (out++[q % 65536])∧(0≤q/65536∧q/65536≤1)∧vl (out++[q % 65536])+65536^(i+1)*(q/65536)=vl ((lim a).take (i+1))+vl ((lim b).take (i+1))∧(max (lim a).length (lim b).length<i+1→q/65536=0))∧
   2*(max (lim a).length (lim b).length-(i+1))+(q/65536).toNat<2*(max (lim a).length (lim b).length-i)+cy.toNat):=by
  intro q hq hc
  have hle:i≤max (lim a).length (lim b).length:=by
   rcases Nat.lt_or_ge (max (lim a).length (lim b).length) i with h|h
   ·have:=hcz h;omega
   ·exact h
  have hbig:max (lim a).length (lim b).length<i+1→q/65536=0:=fun h=>by
   have:=hxz (by omega)
   have:=hyz (by omega)
   omega
  refine⟨⟨by omega,by simp[hol],qD.2 ⟨hog,zN.2 (by omega)⟩,by omega,hstep q hq,hbig⟩,?_⟩
  by_cases hm:max (lim a).length (lim b).length<i+1
  ·have:=hbig hm;omega
  ·omega
 by_cases h1:(i:Int)<(lim a).length<;>by_cases h2:(i:Int)<(lim b).length
 ·simp(disch:=omega)only[go_sem,h1,h2]
  obtain⟨k1,k2⟩:=key _ rfl (.inl h1)
  refine⟨by omega,by omega,by omega,by omega,by omega,qc (i+1,out++[(cy+(lim a).getD i 0+(lim b).getD i 0) % 65536],(cy+(lim a).getD i 0+(lim b).getD i 0)/65536) [(1,580000000)] k1 k2 rfl (by simp(disch:=omega)only[go_sem,List.length_append];try omega) (by simp(disch:=omega)only[go_sem])⟩
 ·simp(disch:=omega)only[go_sem,h1,h2]
  have e0:cy+(lim a).getD i 0=cy+(lim a).getD i 0+(lim b).getD i 0:=by rw[hyz h2];omega
  obtain⟨k1,k2⟩:=key (cy+(lim a).getD i 0) e0 (.inl h1)
  refine⟨by omega,by omega,by omega,qc (i+1,out++[(cy+(lim a).getD i 0) % 65536],(cy+(lim a).getD i 0)/65536) [(1,580000000)] k1 k2 rfl (by simp(disch:=omega)only[go_sem,List.length_append];try omega) (by simp(disch:=omega)only[go_sem])⟩
 ·simp(disch:=omega)only[go_sem,h1,h2]
  have e0:cy+(lim b).getD i 0=cy+(lim a).getD i 0+(lim b).getD i 0:=by rw[hxz h1];omega
  obtain⟨k1,k2⟩:=key (cy+(lim b).getD i 0) e0 (.inr (.inl h2))
  refine⟨by omega,by omega,by omega,qc (i+1,out++[(cy+(lim b).getD i 0) % 65536],(cy+(lim b).getD i 0)/65536) [(1,580000000)] k1 k2 rfl (by simp(disch:=omega)only[go_sem,List.length_append];try omega) (by simp(disch:=omega)only[go_sem])⟩
 ·by_cases h3:0<cy
  ·simp(disch:=omega)only[go_sem,h1,h2,h3]
   have e0:cy=cy+(lim a).getD i 0+(lim b).getD i 0:=by rw[hxz h1,hyz h2];omega
   obtain⟨k1,k2⟩:=key cy e0 (.inr (.inr h3))
   refine⟨by omega,qc (i+1,out++[cy % 65536],cy/65536) [(1,580000000)] k1 k2 rfl (by simp(disch:=omega)only[go_sem,List.length_append];try omega) (by simp(disch:=omega)only[go_sem])⟩
  ·have hcy0:cy=0:=by omega
   have hov2:vl out=((a+b:Nat):Int):=by
    rw[List.take_of_length_le (by omega),List.take_of_length_le (by omega),qZ,qZ,hcy0]at hov
    simp at hov;omega
   simp(disch:=omega)only[go_sem,h1,h2,h3]
   refine qA (jm true out (a+b) (by omega) hog hov2) (by simp(disch:=omega)only[go_sem]) ?_
   rintro r hs (⟨h0,rfl,rfl⟩|⟨zs,rfl,rfl⟩)
   ·refine⟨⟨by simp,by simp(disch:=omega)only[go_sem]⟩,?_⟩
    simp(disch:=omega)only[go_sem]
    refine qg [] [] [] [.ag [.v (.slice none 0 0)]] rfl (by simp(disch:=omega)only[go_sem]) (by simp(disch:=omega)only[go_sem]) (by simp) (by intro _;simp[zh,AV.pu,AV.pu.puL,Ob.pu,qV]) (.inl ⟨h0,rfl,rfl⟩)
   ·refine⟨⟨by simp,by simp(disch:=omega)only[go_sem]⟩,?_⟩
    simp(disch:=omega)only[go_sem]
    refine qg [(0,620000000)] [.own 1 (qb (lim (a+b)++zs))] [] [.ag [.rf 0 0 (lim (a+b)).length]] rfl (by simp(disch:=omega)only[go_sem]) (by simp(disch:=omega)only[go_sem]) (by simp) (by intro _;simp[zh,AV.pu,AV.pu.puL,Ob.pu,qV]) (.inr ⟨zs,rfl,rfl⟩)
end Go.Ab
namespace Go.Ab
open Go Go.Proofs
set_option maxRecDepth 100000 in
theorem JQ(cl:Bool)(A:List Int)(hA:gd A)(b:Nat)(lA:A.length≤1000000)(lB:(lim b).length≤1000000)(m:Nat)(hm:vl A*(b:Int)=(m:Int)):
  Con Tryz.prog 265 cl [.ag [.sl A.length (qb A)],.ag [.sl (lim (b)).length (qb (lim (b)))]] [] (aBa m):=by
 refine Con.of_aw Tryz.func265 rfl Tryz.ntmps265 (by simp) (by simp) (by simp) (W.sound ?_)
 show @W Tryz.prog 80 ⟨_⟩ ⟨fun x σ=>@q7 _ _ _ ⟨_⟩ _ ⟨_⟩ x σ⟩ _ _
 have hvb:=qZ b
 have hB:=q6 b
 generalize lim b=B at*
 simp(disch:=omega)only[go_sem]
 refine⟨by omega,?_⟩
 refine qj (fun x:Nat×List Int=>[(2,.pt 0 0),(3,.pt 1 0),(4,.pt 2 0),(5,.rf 3 0 (A.length+B.length)),(6,.v (.int .i64 x.1))])
  (fun x=>[(0,.own 0 [.sl A.length (qb A)]),(1,.own 0 [.sl B.length (qb B)]),(2,.own 0 [.v (.slice none 0 0)]),(3,.own 1 (qb x.2))])
  (fun x=>x.1≤A.length∧x.2.length=A.length+B.length∧gd x.2∧vl x.2=vl (A.take x.1)*vl B∧∀j,x.1+B.length≤j→x.2.getD j 0=0)
  (fun x=>A.length-x.1) (0,List.replicate (A.length+B.length) 0) ⟨by simp,by simp,zj _,by simp[zI,vl],fun j _=>by
   rw[List.getD_eq_getElem?_getD,List.getElem?_replicate];split<;>rfl⟩
  (Le.lst [(0,40000000),(1,50000000),(2,60000000),(3,190000000)] _ _ rfl (by simp(disch:=omega)only[go_sem];try omega) (by simp(disch:=omega)only[go_sem,show((A.length:Int)+(B.length:Int)).toNat=A.length+B.length by omega])) ?_
 rintro⟨i,out⟩ ⟨hi,hol,hog,hov,hoz⟩
 dsimp only at hi hol hog hov hoz ⊢
 simp(disch:=omega)only[go_sem]
 refine qe (fun h1=>?_) (fun h1=>?_)
 ·have hx:=qH hA i
  simp(disch:=omega)only[go_sem,h1]
  refine qj (fun x:Nat×List Int×Int=>[(2,.pt 0 0),(3,.pt 1 0),(4,.pt 2 0),(5,.rf 3 0 (A.length+B.length)),(6,.v (.int .i64 i)),(7,.v (.int .i64 x.2.2)),(8,.v (.int .i64 x.1))])
   (fun x=>[(0,.own 0 [.sl A.length (qb A)]),(1,.own 0 [.sl B.length (qb B)]),(2,.own 0 [.v (.slice none 0 0)]),(3,.own 1 (qb x.2.1))])
   (fun x=>x.1≤B.length∧x.2.1.length=A.length+B.length∧gd x.2.1∧(0≤x.2.2∧x.2.2<65536)∧vl x.2.1+65536^(i+x.1)*x.2.2=vl out+65536^i*(A.getD i 0*vl (B.take x.1))∧∀j,i+B.length≤j→x.2.1.getD j 0=0)
   (fun x=>B.length-x.1) (0,out,0) ⟨by simp,hol,hog,by simp,by simp[vl],hoz⟩
   (Le.lst [] _ _ rfl (by simp(disch:=omega)only[go_sem];try omega) (by simp(disch:=omega)only[go_sem])) ?_
  rintro⟨j,o2,cy⟩ ⟨hj,hol2,hog2,hcy,hov2,hoz2⟩
  dsimp only at hj hol2 hog2 hcy hov2 hoz2 ⊢
  simp(disch:=omega)only[go_sem]
  refine qe (fun h2=>?_) (fun h2=>?_)
  ·have hy:=qH hB j
   have ho:=qH hog2 (i+j)
   have hxy:=aoH hx hy
   have e1:((i:Int)+(j:Int)).toNat=i+j:=by omega
   simp(disch:=omega)only[go_sem,h2]
   refine qs rfl [⟨0,[],[]⟩,⟨1,[],[]⟩,⟨2,[],[]⟩,⟨3,[],[]⟩,⟨4,[],[]⟩,⟨5,[],[]⟩,⟨6,[5],[]⟩,⟨7,[5],[]⟩,⟨8,[5,7],[]⟩,⟨9,[5],[]⟩,⟨10,[5],[]⟩,⟨11,[5,7,10],[]⟩,⟨12,[5,7,10],[]⟩,⟨13,[5,7,10,12],[]⟩,⟨14,[5,7,10],[]⟩,⟨15,[5,7,10],[]⟩,⟨16,[5],[]⟩,⟨17,[],[]⟩,⟨18,[5,7,10,12,15],[]⟩,⟨19,[],[]⟩,⟨20,[],[]⟩] (by kernel_rfl) ?_
   simp(disch:=omega)only[go_sem,e1]
   generalize hq:o2.getD (i+j) 0+A.getD i 0*B.getD j 0+cy=q
   refine⟨by omega,by omega,by omega,by omega,by omega,by omega,by omega,by omega,qc (j+1,o2.set (i+j) (q % 65536),q/65536) [] ⟨by show j+1≤_;omega,by simp[hol2],yE hog2 (by omega),by show 0≤q/65536∧q/65536<65536;omega,?_,fun k hk=>?_⟩
    (by show B.length-(j+1)<B.length-j;omega) rfl (by simp(disch:=omega)only[go_sem];try omega) (by simp(disch:=omega)only[go_sem])⟩
   ·show vl (o2.set (i+j) (q % 65536))+65536^(i+(j+1))*(q/65536)=vl out+65536^i*(A.getD i 0*vl (B.take (j+1)))
    rw[QI (by omega),zZ (by omega),←Nat.add_assoc,Int.pow_succ]
    have e2:(65536:Int)^(i+j)=65536^i*65536^j:=Int.pow_add _ _ _
    have e3:q % 65536+65536*(q/65536)=q:=Int.emod_add_mul_ediv q 65536
    rw[e2]at hov2 ⊢
    generalize (65536:Int)^i=Pi at*
    generalize (65536:Int)^j=Pj at*
    grind
   ·show(o2.set (i+j) (q % 65536)).getD k 0=0
    rw[List.getD_eq_getElem?_getD,List.getElem?_set_ne (by omega),←List.getD_eq_getElem?_getD]
    exact hoz2 k hk
  ·simp(disch:=omega)only[go_sem,h2]
   have e1:((i:Int)+(B.length:Int)).toNat=i+B.length:=by omega
   have hjB:j=B.length:=by omega
   subst hjB
   rw[List.take_length]at hov2
   have hz:=hoz2 (i+B.length) (Nat.le_refl _)
   refine qs rfl [⟨0,[],[]⟩,⟨1,[],[]⟩,⟨2,[],[]⟩,⟨3,[],[]⟩,⟨4,[],[]⟩,⟨5,[],[]⟩,⟨6,[3],[]⟩,⟨7,[3],[]⟩,⟨8,[3],[]⟩,⟨9,[3],[]⟩,⟨10,[3],[]⟩,⟨11,[3],[]⟩,⟨12,[3],[]⟩,⟨13,[3],[]⟩,⟨14,[3,9,13],[]⟩,⟨15,[3],[]⟩,⟨16,[],[]⟩,⟨17,[],[]⟩] (by kernel_rfl) ?_
   simp(disch:=omega)only[go_sem,e1,hz]
   have e0:(0:Int)+cy=cy:=by omega
   refine⟨by omega,by omega,by omega,by omega,qc (i+1,o2.set (i+B.length) cy) [] ⟨by show i+1≤_;omega,by simp[hol2],yE hog2 hcy,?_,fun k hk=>?_⟩ (by show A.length-(i+1)<A.length-i;omega) rfl (by simp(disch:=omega)only[go_sem];try omega) (by simp(disch:=omega)only[go_sem,e0])⟩
   ·show vl (o2.set (i+B.length) cy)=vl (A.take (i+1))*vl B
    rw[QI (by omega),hz,zZ (by omega)]
    generalize (65536:Int)^i=Pi at*
    grind
   ·show(o2.set (i+B.length) cy).getD k 0=0
    rw[List.getD_eq_getElem?_getD,List.getElem?_set_ne (by show i+B.length≠k;omega),←List.getD_eq_getElem?_getD]
    exact hoz2 k (by omega)
 ·simp(disch:=omega)only[go_sem,h1]
  have hiA:i=A.length:=by omega
  subst hiA
  rw[List.take_length,hvb,hm]at hov
  rw[←hol]
  refine qA (jm true (out) (m) (by omega) (hog) (hov)) (by simp(disch:=omega)only[go_sem]) ?_
  rintro r hs (⟨h0,rfl,rfl⟩|⟨zs,rfl,rfl⟩)
  ·refine⟨⟨by simp,by simp(disch:=omega)only[go_sem]⟩,?_⟩
   simp(disch:=omega)only[go_sem]
   refine qg [] [] [] [.ag [.v (.slice none 0 0)]] rfl (by simp(disch:=omega)only[go_sem]) (by simp(disch:=omega)only[go_sem]) (by simp) (by intro _;simp[zh,AV.pu,AV.pu.puL,Ob.pu,qV]) (.inl ⟨h0,rfl,rfl⟩)
  ·refine⟨⟨by simp,by simp(disch:=omega)only[go_sem]⟩,?_⟩
   simp(disch:=omega)only[go_sem]
   refine qg [(0,810000000)] [.own 1 (qb (lim (m)++zs))] [] [.ag [.rf 0 0 (lim (m)).length]] rfl (by simp(disch:=omega)only[go_sem]) (by simp(disch:=omega)only[go_sem]) (by simp) (by intro _;simp[zh,AV.pu,AV.pu.puL,Ob.pu,qV]) (.inr ⟨zs,rfl,rfl⟩)
theorem ap7(cl:Bool)(a b:Nat)(la:(lim a).length≤1000000)(lb:(lim b).length≤1000000):Con Tryz.prog 265 cl [.ag [.sl (lim (a)).length (qb (lim (a)))],.ag [.sl (lim (b)).length (qb (lim (b)))]] [] (aBa (a*b)):=
 JQ cl (lim a) (q6 a) b la lb (a*b) (by rw[qZ,Int.natCast_mul])
end Go.Ab
namespace Go.Ab
open Go Go.Proofs
def aOy(m:Nat)(r0:Int):AV→List Ob→List Ob→Prop:=fun r hs bs=>
 (m=0∧r=.tu [.ag [.v (.slice none 0 0)],.v (.int .i64 r0)]∧hs=[])∨∃zs,r=.tu [.ag [.rf 0 0 (lim m).length],.v (.int .i64 r0)]∧hs=[.own 1 (qb (lim m++zs))]
theorem Con.natF2{P:Program}{f:FuncId}{args:List AV}{m:Nat}{r0:Int}(h:Con P f false args [] (aOy m r0)):Con P f false args [] (isA (.tu [.ag [.sl (lim (m)).length (qb (lim (m)))],.v (.int .i64 r0)])):=
 Con.frzA <| h.mono fun r hs bs h=>by
  rcases h with⟨rfl,rfl,rfl⟩|⟨zs,rfl,rfl⟩
  ·show qE _ 6 _=_
   rw[qm];rfl
  ·show qE _ 6 _=_
   rw[J6,List.map_cons,List.map_cons,List.map_nil,ac9,List.map_cons,List.map_nil,jT (k:=2) (l:=lim m) (zs:=zs) zd rfl]
   rfl
theorem K4(cl:Bool)(A:List Int)(d:Nat)(hA:gd A)(lA:A.length≤1000000)(hd:0<d)(hd2:d<65536)(m:Nat)(hm:vl A/(d:Int)=(m:Int)):
  Con Tryz.prog 279 cl [.ag [.sl A.length (qb A)],.v (.int .i64 d)] [] (aOy m (vl A % d)):=by
 refine Con.of_aw Tryz.func279 rfl Tryz.ntmps279 (by simp) (by simp) (by simp) (W.sound ?_)
 show @W Tryz.prog 42 ⟨_⟩ ⟨fun x σ=>@q7 _ _ _ ⟨_⟩ _ ⟨_⟩ x σ⟩ _ _
 simp(disch:=omega)only[go_sem]
 refine⟨by omega,?_⟩
 refine qj (fun x:Nat×List Int×Int=>[(1,.v (.int .i64 d)),(2,.pt 0 0),(4,.pt 1 0),(6,.rf 2 0 A.length),(7,.v (.int .i64 x.2.2)),(8,.v (.int .i64 ((x.1:Int)-1)))])
  (fun x=>[(0,.own 0 [.sl A.length (qb A)]),(1,.own 0 [.v (.slice none 0 0)]),(2,.own 1 (qb x.2.1))])
  (fun x=>x.1≤A.length∧x.2.1.length=A.length∧gd x.2.1∧x.2.2=vl (A.drop x.1) % d∧vl (x.2.1.drop x.1)=vl (A.drop x.1)/d)
  (fun x=>x.1) (A.length,List.replicate A.length 0,0) ⟨Nat.le_refl _,by simp,zj _,by simp[vl],by simp[vl]⟩
  (Le.lst [(0,40000000),(1,60000000),(2,150000000)] _ _ rfl (by simp(disch:=omega)only[go_sem,List.length_replicate];try omega) (by simp(disch:=omega)only[go_sem])) ?_
 rintro⟨k,out,rest⟩ ⟨hk,hol,hog,hr,hov⟩
 dsimp only at hk hol hog hr hov ⊢
 have hr0:0≤rest∧rest<d:=by rw[hr];exact⟨Int.emod_nonneg _ (by omega),Int.emod_lt_of_pos _ (by omega)⟩
 simp(disch:=omega)only[go_sem]
 refine qe (fun h1=>?_) (fun h1=>?_)
 ·obtain⟨i,rfl⟩:∃i,k=i+1:=⟨k-1,by omega⟩
  have ei:((i+1:Nat):Int)-1=(i:Nat):=by omega
  have hx:=qH hA i
  have hq6:0≤(rest*65536+A.getD i 0)/d∧(rest*65536+A.getD i 0)/d<65536:=by
   refine⟨Int.ediv_nonneg (by omega) (by omega),Int.ediv_lt_of_lt_mul (by omega) ?_⟩
   have:rest+1≤(d:Int):=by omega
   have:=Int.mul_le_mul_of_nonneg_left this (show(0:Int)≤65536 by omega)
   omega
  simp(disch:=omega)only[go_sem,h1,ei]
  generalize hq:rest*65536+A.getD i 0=q at*
  refine⟨by omega,by omega,by omega,by omega,by omega,by omega,qc (i,out.set i (q/d),q % d) [] ⟨by show i≤_;omega,by simp[hol],yE hog hq6,?_,?_⟩ (by show i<i+1;omega) rfl (by simp(disch:=omega)only[go_sem];try omega) (by simp(disch:=omega)only[go_sem])⟩
  ·show q % d=vl (A.drop i) % d
   rw[zz (l:=A) (i:=i) (by omega),←hq,hr]
   have h3:=Int.emod_add_mul_ediv (vl (A.drop (i+1))) d
   rw[show A.getD i 0+65536*vl (A.drop (i+1))=vl (A.drop (i+1)) % d*65536+A.getD i 0+d*(65536*(vl (A.drop (i+1))/d)) by grind,Int.add_mul_emod_self_left]
  ·show vl ((out.set i (q/d)).drop i)=vl (A.drop i)/d
   rw[drop_set (by omega),vl,hov,zz (l:=A) (i:=i) (by omega),←hq,hr]
   have h3:=Int.emod_add_mul_ediv (vl (A.drop (i+1))) d
   rw[show A.getD i 0+65536*vl (A.drop (i+1))=vl (A.drop (i+1)) % d*65536+A.getD i 0+d*(65536*(vl (A.drop (i+1))/d)) by grind,Int.add_mul_ediv_left _ _ (by omega)]
 ·simp(disch:=omega)only[go_sem,h1]
  have:k=0:=by omega
  subst this
  rw[List.drop_zero,List.drop_zero,hm]at hov
  rw[List.drop_zero]at hr
  rw[←hol]
  refine qA (jm true out m (by omega) hog hov) (by simp(disch:=omega)only[go_sem]) ?_
  rintro r hs (⟨h0,rfl,rfl⟩|⟨zs,rfl,rfl⟩)
  ·refine⟨⟨by simp,by simp(disch:=omega)only[go_sem]⟩,?_⟩
   simp(disch:=omega)only[go_sem]
   rw[hr]
   refine qg [] [] [] [.ag [.v (.slice none 0 0)],.v (.int .i64 (vl A % d))] rfl (by simp(disch:=omega)only[go_sem]) (by simp(disch:=omega)only[go_sem]) (by simp) (by intro _;simp[zh,AV.pu,AV.pu.puL,Ob.pu,qV]) (.inl ⟨h0,rfl,rfl⟩)
  ·refine⟨⟨by simp,by simp(disch:=omega)only[go_sem]⟩,?_⟩
   simp(disch:=omega)only[go_sem]
   rw[hr]
   refine qg [(0,420000000)] [.own 1 (qb (lim m++zs))] [] [.ag [.rf 0 0 (lim m).length],.v (.int .i64 (vl A % d))] rfl (by simp(disch:=omega)only[go_sem]) (by simp(disch:=omega)only[go_sem]) (by simp) (by intro _;simp[zh,AV.pu,AV.pu.puL,Ob.pu,qV]) (.inr ⟨zs,rfl,rfl⟩)
/-! ### Shifts-/
theorem an7{k:Nat}(hk:k<16):IntKind.i64.wrap (1*2^(min ((k:Int)).toNat 64))=((2^k:Nat):Int):=by
 have e:min ((k:Int)).toNat 64=k:=by omega
 rw[e,Int.one_mul]
 have h:=yb k hk
 rw[ajS (by omega) (by omega),Int.natCast_pow];rfl
theorem ap6(cl:Bool)(a k:Nat)(la:(lim a).length≤400000)(hk:k≤5000000):Con Tryz.prog 235 cl [.ag [.sl (lim (a)).length (qb (lim (a)))],.v (.int .i64 k)] [] (aBa (a*2^k)):=by
 refine Con.of_aw Tryz.func235 rfl Tryz.ntmps235 (by simp) (by simp) (by simp) (W.sound ?_)
 show @W Tryz.prog 22 ⟨_⟩ ⟨fun x σ=>@q7 _ _ _ ⟨_⟩ _ ⟨_⟩ x σ⟩ _ _
 have hz:((lim a).length:Int)=0→a=0:=fun h=>qF.1 (List.length_eq_zero_iff.1 (by omega))
 have hvA:=qZ a
 have gA:=q6 a
 generalize hLA:lim a=A at*
 simp(disch:=omega)only[go_sem]
 refine qe (fun h1=>?_) (fun h1=>?_)
 ·simp(disch:=omega)only[go_sem,h1]
  have h0:=hz h1
  subst h0
  refine qg [] [] [] [.ag [.v (.slice none 0 0)]] rfl (by simp(disch:=omega)only[go_sem]) (by simp(disch:=omega)only[go_sem]) (by simp) (by intro _;simp[zh,AV.pu,AV.pu.puL,Ob.pu,qV]) (.inl ⟨by simp,rfl,rfl⟩)
 ·simp(disch:=omega)only[go_sem,h1]
  refine qs rfl [⟨0,[],[]⟩,⟨1,[],[]⟩,⟨3,[],[]⟩,⟨4,[],[]⟩,⟨7,[4],[]⟩,⟨8,[4],[]⟩,⟨9,[4],[]⟩,⟨2,[4],[]⟩,⟨5,[],[]⟩,⟨6,[],[]⟩,⟨10,[],[]⟩,⟨11,[],[]⟩,⟨12,[],[]⟩] (by kernel_rfl) ?_
  have e16:((k:Int)/16).toNat=k/16:=by omega
  have e17:(k:Int) % 16=((k % 16:Nat):Int):=by omega
  have es:IntKind.i64.wrap (1*2^(min ((k:Int) % 16).toNat 64))=((2^(k % 16):Nat):Int):=by rw[e17];exact an7 (by omega)
  have hp15:2^(k % 16)≤2^15:=Nat.pow_le_pow_right (by omega) (by omega)
  have ecut:(List.replicate (k/16) (0:Int)).take (k/16)=List.replicate (k/16) 0:=List.take_of_length_le (by simp)
  simp(disch:=omega)only[go_sem,e16,ecut,es]
  refine⟨by omega,by omega,by simp;omega,?_⟩
  refine qa ((YH false (2^(k % 16)) (by omega)).natF) ?_
  simp(disch:=omega)only[go_sem]
  have hvA2:vl (List.replicate (k/16) 0++A)*((2^(k % 16):Nat):Int)=((a*2^k:Nat):Int):=by
   rw[yT,zI,hvA,List.length_replicate]
   have h2:a*2^k=65536^(k/16)*a*2^(k % 16):=by
    have:2^k=65536^(k/16)*2^(k % 16):=by rw[Zz,←Nat.pow_add,Nat.div_add_mod]
    rw[this];grind
   rw[h2,Int.natCast_mul,Int.natCast_mul,Int.natCast_pow]
   simp
  have gA2:gd (List.replicate (k/16) 0++A):=qD.2 ⟨zj _,gA⟩
  have lA2:(List.replicate (k/16) (0:Int)++A).length=k/16+A.length:=by simp
  have et:(List.replicate (k/16) (0:Int)++A).take (k/16+A.length)=List.replicate (k/16) 0++A:=List.take_of_length_le (by simp)
  have l2s:(lim (2^(k % 16))).length≤1000000:=by
   have:=qB (m:=2^(k % 16)) (B:=16) (zx.2 (by omega));omega
  refine qA (JQ true (List.replicate (k/16) 0++A) gA2 (2^(k % 16)) (by omega) l2s (a*2^k) hvA2) (by simp(disch:=omega)only[go_sem,lA2,et]) ?_
  rintro r hs (⟨h0,rfl,rfl⟩|⟨zs,rfl,rfl⟩)
  ·refine⟨⟨by simp,by simp(disch:=omega)only[go_sem]⟩,?_⟩
   simp(disch:=omega)only[go_sem]
   refine qg [] [] [] [.ag [.v (.slice none 0 0)]] rfl (by simp(disch:=omega)only[go_sem]) (by simp(disch:=omega)only[go_sem]) (by simp) (by intro _;simp[zh,AV.pu,AV.pu.puL,Ob.pu,qV]) (.inl ⟨h0,rfl,rfl⟩)
  ·refine⟨⟨by simp,by simp(disch:=omega)only[go_sem]⟩,?_⟩
   simp(disch:=omega)only[go_sem]
   refine qg [(0,230000000)] [.own 1 (qb (lim (a*2^k)++zs))] [] [.ag [.rf 0 0 (lim (a*2^k)).length]] rfl (by simp(disch:=omega)only[go_sem]) (by simp(disch:=omega)only[go_sem]) (by simp) (by intro _;simp[zh,AV.pu,AV.pu.puL,Ob.pu,qV]) (.inr ⟨zs,rfl,rfl⟩)
end Go.Ab
namespace Go.Ab
open Go Go.Proofs
theorem ap5(a k:Nat)(la:(lim a).length≤1000000)(hk:k≤100000000):Con Tryz.prog 234 false [.ag [.sl (lim (a)).length (qb (lim (a)))],.v (.int .i64 k)] [] (isA (.ag [.sl (lim (a/2^k)).length (qb (lim (a/2^k)))])):=by
 refine Con.frzA ?_
 refine Con.of_aw Tryz.func234 rfl Tryz.ntmps234 (by simp) (by simp) (by simp) (W.sound ?_)
 show @W Tryz.prog 28 ⟨_⟩ ⟨fun x σ=>@q7 _ _ _ ⟨_⟩ _ ⟨_⟩ x σ⟩ _ _
 simp(disch:=omega)only[go_sem]
 refine qe (fun h1=>?_) (fun h1=>?_)
 ·simp(disch:=omega)only[go_sem,h1]
  have h0:a/2^k=0:=by
   refine Nat.div_eq_of_lt (Nat.lt_of_lt_of_le (ZG a) ?_)
   rw[Zz];exact Nat.pow_le_pow_right (by omega) (by omega)
  rw[h0,qm]
  exact qi
 ·simp(disch:=omega)only[go_sem,h1]
  refine qs rfl [⟨0,[],[]⟩,⟨1,[],[]⟩,⟨2,[1],[]⟩,⟨3,[1],[]⟩,⟨4,[],[]⟩,⟨5,[],[]⟩,⟨6,[1,4],[]⟩,⟨7,[1,4],[]⟩,⟨8,[1,4],[]⟩,⟨13,[1,4],[]⟩,⟨9,[],[70000000]⟩,⟨10,[],[70000000]⟩,⟨11,[],[70000000]⟩,⟨12,[],[70000000]⟩,⟨14,[],[]⟩,⟨15,[],[]⟩] (by kernel_rfl) ?_
  have e16:((k:Int)/16).toNat=k/16:=by omega
  have e17:(k:Int) % 16=((k % 16:Nat):Int):=by omega
  have e18:(((lim a).length:Int)-(k:Int)/16).toNat=((lim a).drop (k/16)).length:=by simp;omega
  have es:IntKind.i64.wrap (1*2^(min ((k:Int) % 16).toNat 64))=((2^(k % 16):Nat):Int):=by rw[e17];exact an7 (by omega)
  have hp15:2^(k % 16)≤2^15:=Nat.pow_le_pow_right (by omega) (by omega)
  have hp0:0<2^(k % 16):=Nat.pow_pos (by omega)
  have hvD:=aeb (q6 a) (i:=k/16) (by omega)
  have gD:=yf (q6 a) (k/16)
  have hlD:((lim a).drop (k/16)).length≤1000000:=by simp;omega
  have hm:vl ((lim a).drop (k/16))/((2^(k % 16):Nat):Int)=((a/2^k:Nat):Int):=by
   rw[←hvD,qZ]
   have:a/2^k=a/65536^(k/16)/2^(k % 16):=by rw[Nat.div_div_eq_div_mul,Zz,←Nat.pow_add,Nat.div_add_mod]
   rw[this,Int.natCast_ediv,Int.natCast_ediv,Int.natCast_pow 65536];rfl
  have et:((lim a).drop (k/16)).take ((lim a).drop (k/16)).length=(lim a).drop (k/16):=List.take_length
  simp(disch:=omega)only[go_sem,e16,e18,et,es]
  generalize (lim a).drop (k/16)=D at*
  refine⟨by omega,by omega,?_⟩
  refine qa ((K4 false D (2^(k % 16)) gD hlD hp0 (by omega) (a/2^k) hm).natF2) ?_
  simp(disch:=omega)only[go_sem]
  exact qi
theorem aMo(a:Nat)(la:(lim a).length≤2^40):Con Tryz.prog 290 true [.ag [.sl (lim (a)).length (qb (lim (a)))]] [] (isA (.v (.int .i64 (bl a)))):=by
 refine Con.of_aw Tryz.func290 rfl Tryz.ntmps290 (by simp) (by simp) (by simp) (W.sound ?_)
 show @W Tryz.prog 29 ⟨_⟩ ⟨fun x σ=>@q7 _ _ _ ⟨_⟩ _ ⟨_⟩ x σ⟩ _ _
 simp(disch:=omega)only[go_sem]
 refine qe (fun h1=>?_) (fun h1=>?_)
 ·simp(disch:=omega)only[go_sem,h1]
  have:a=0:=qF.1 (List.length_eq_zero_iff.1 (by omega))
  subst this
  rw[yS]
  exact qx
 ·have hm:a≠0:=fun e=>by rw[e,qm]at h1;simp at h1
  have e2:(((lim a).length:Int)-1).toNat=(lim a).length-1:=by omega
  have ht:=ZI hm
  have hb:=aqB hm
  have eq:(lim a).getD ((lim a).length-1) 0=((a/65536^((lim a).length-1):Nat):Int):=by rw[zL,Nat.mod_eq_of_lt ht.2]
  generalize a/65536^((lim a).length-1)=q at*
  simp(disch:=omega)only[go_sem,h1,e2,eq]
  refine⟨by omega,by omega,?_⟩
  refine qj (fun x:Nat×Nat=>[(3,.v (.int .i64 x.1)),(4,.v (.int .i64 x.2))]) (fun _=>[]) (fun x=>x.1+bl x.2=bl a∧x.2<65536∧x.1≤2^45) (fun x=>x.2) (16*((lim a).length-1),q) ⟨hb.symm,ht.2,by show 16*((lim a).length-1)≤2^45;omega⟩ (Le.lst [] _ _ rfl (by simp(disch:=omega)only[go_sem];try omega) (by simp(disch:=omega)only[go_sem])) ?_
  rintro⟨n,x⟩ ⟨hn,hx,hn2⟩
  dsimp only at hn hx hn2 ⊢
  simp(disch:=omega)only[go_sem]
  refine qe (fun h2=>?_) (fun h2=>?_)
  ·simp(disch:=omega)only[go_sem,h2]
   have hd:=aEv (x:=x) (by omega)
   have hp:=zx.2 (show x<2^16 by omega)
   refine qc (n+1,x/2) [] ⟨by show n+1+bl (x/2)=bl a;omega,by show x/2<65536;omega,?_⟩ (by show x/2<x;omega) rfl (by simp(disch:=omega)only[go_sem];try omega) (by simp(disch:=omega)only[go_sem])
   show n+1≤2^45
   have:=aao (m:=a)
   omega
  ·simp(disch:=omega)only[go_sem,h2]
   have:x=0:=by omega
   subst this
   rw[yS]at hn
   refine qz (by simp(disch:=omega)only[go_sem]) (by simp(disch:=omega)only[go_sem]) ⟨?_,rfl,rfl⟩
   simp[zh];omega
theorem K5(m:Nat)(i:Int)(hl:(lim m).length≤2^40)(hi:0≤i)(hi2:i<2^62):Con Tryz.prog 138 true [.ag [.sl (lim (m)).length (qb (lim (m)))],.v (.int .i64 i)] [] (isA (.v (.int .i64 ((m/2^i.toNat % 2:Nat):Int)))):=by
 refine Con.of_w (rs:=[.tmp 4]) Tryz.func138 rfl Tryz.ntmps138 rfl ?_
 obtain⟨k,rfl⟩:=Int.eq_ofNat_of_zero_le hi
 rw[Int.toNat_natCast]
 have h0:¬((k:Int)<0):=by omega
 have e16:((k:Int)/16).toNat=k/16:=by omega
 have em:min ((k:Int) % 16).toNat 64=k % 16:=by omega
 have hb:=aqC m k
 simp(disch:=omega)only[go_sem,h0]
 refine qe (fun h1=>?_) (fun h1=>?_)
 ·simp(disch:=omega)only[go_sem,h1]
  have:m/2^k % 2=0:=by
   rw[←hb]
   have h2:=zL m (k/16)
   rw[List.getD_eq_getElem?_getD,List.getElem?_eq_none (by omega)]at h2
   have h3:m/65536^(k/16) % 65536=0:=by simp only[Option.getD_none]at h2;omega
   rw[h3];simp
  rw[this]
  exact qx
 ·have hx:=qH (q6 m) (k/16)
  have hp:(0:Int)<2^(k % 16):=Int.pow_pos (by omega)
  have efd:∀x:Int,x.fdiv (2^(k % 16))=x/2^(k % 16):=fun x=>Int.fdiv_eq_ediv_of_nonneg _ (Int.le_of_lt hp)
  have hq:0≤(lim m).getD (k/16) 0/2^(k % 16)∧(lim m).getD (k/16) 0/2^(k % 16)<65536:=by
   refine⟨Int.ediv_nonneg hx.1 (Int.le_of_lt hp),Int.lt_of_le_of_lt (Int.ediv_le_self _ hx.1) hx.2⟩
  have hr:(lim m).getD (k/16) 0/2^(k % 16) % 2=((m/2^k % 2:Nat):Int):=by
   rw[←hb,zL]
   generalize m/65536^(k/16) % 65536=x
   rw[Int.natCast_emod,Int.natCast_ediv,Int.natCast_pow];rfl
  simp(disch:=omega)only[go_sem,h1,e16,em,efd,hr]
  refine⟨by omega,by omega,by omega,?_⟩
  exact qx
theorem aq8{m i:Nat}(hz:∀j,j<i→m/2^j % 2=0)(h1:m/2^i % 2=1):tz m=i:=by
 have key:∀k,k≤i→2^k*(m/2^k)=m:=by
  intro k
  induction k with
  |zero=>intro _;simp
  |succ k ih=>
   intro hk
   have h2:=ih (by omega)
   have h3:=hz k (by omega)
   have h4:m/2^(k+1)=m/2^k/2:=by rw[Nat.pow_succ,Nat.div_div_eq_div_mul]
   rw[h4,Nat.pow_succ,Nat.mul_assoc,show 2*(m/2^k/2)=m/2^k by omega];exact h2
 refine Qn (a:=m/2^i/2) ?_
 have:=key i (Nat.le_refl _)
 rw[show 2*(m/2^i/2)+1=m/2^i by omega];exact this.symm
theorem adK(m:Nat)(hl:(lim m).length≤2^40):Con Tryz.prog 233 true [.ag [.sl (lim (m)).length (qb (lim (m)))]] [] (isA (.v (.int .i64 (tz m)))):=by
 refine Con.of_w (rs:=[.tmp 2]) Tryz.func233 rfl Tryz.ntmps233 rfl ?_
 simp(disch:=omega)only[go_sem]
 refine qj (fun i:Nat=>[(1,.pt 0 0),(3,.v (.int .i64 i))]) (fun _=>[(0,.own 0 [.sl (lim (m)).length (qb (lim (m)))])]) (fun i=>i≤16*(lim m).length∧∀j,j<i→m/2^j % 2=0) (fun i=>16*(lim m).length-i) 0 ⟨by omega,fun j hj=>by omega⟩ (Le.lst [(0,30000000)] _ _ rfl (by simp(disch:=omega)only[go_sem];try omega) (by simp(disch:=omega)only[go_sem])) ?_
 rintro i ⟨hi,hz⟩
 simp(disch:=omega)only[go_sem]
 refine qe (fun h1=>?_) (fun h1=>?_)
 ·simp(disch:=omega)only[go_sem,h1]
  refine ql (K5 m i hl (by omega) (by omega)) ?_
  simp(disch:=omega)only[go_sem]
  refine qe (fun h2=>?_) (fun h2=>?_)
  ·simp(disch:=omega)only[go_sem,h2]
   have:=aq8 hz (by omega)
   rw[this]
   exact qx
  ·simp(disch:=omega)only[go_sem,h2]
   refine qc (i+1) [] ⟨by omega,fun j hj=>?_⟩ (by show 16*(lim m).length-(i+1)<16*(lim m).length-i;omega) rfl (by simp(disch:=omega)only[go_sem];try omega) (by simp(disch:=omega)only[go_sem])
   rcases(by omega:j<i∨j=i)with h|h
   ·exact hz j h
   ·subst h;omega
 ·simp(disch:=omega)only[go_sem,h1]
  have hm:m=0:=by
   have h3:=aao (m:=m)
   rcases Nat.eq_zero_or_pos m with h|h
   ·exact h
   ·have h4:=yl (n:=m) (by omega)
    have h5:=(y6 (n:=m) (by omega)).1
    have:=hz (tz m) (by omega)
    omega
  subst hm
  rw[ajV]
  exact qx
end Go.Ab
namespace Go.Ab
open Go Go.Proofs
theorem aOD(m:Nat):decide ((0:Int)<((lim m).length:Int))=decide (m≠0):=by
 rw[decide_eq_decide]
 exact⟨fun h e=>by rw[e,qm]at h;simp at h,fun h=>by have:=y8 h;omega⟩
theorem Z0(m:Nat)(hl:(lim m).length≤2^39):Con Tryz.prog 259 false [.sl (lim (m)).length (qb (lim (m)))] [] (isA (.ag [.sl (lim (m)).length (qb (lim (m)))])):=(jm false (lim m) m hl (q6 m) (qZ m)).natF
theorem ZZ(n:Nat)(hn:n<2^63):Con Tryz.prog 203 false [.v (.int .i64 n)] [] (isA (.ag [.sl (lim (n)).length (qb (lim (n)))])):=(YH false n hn).natF
theorem JS(a b:Nat)(la:(lim a).length≤2000000)(lb:(lim b).length≤2000000):Con Tryz.prog 206 false [.ag [.sl (lim (a)).length (qb (lim (a)))],.ag [.sl (lim (b)).length (qb (lim (b)))]] [] (isA (.ag [.sl (lim (a+b)).length (qb (lim (a+b)))])):=(ap8 false a b la lb).natF
theorem ajm(a b:Nat)(la:(lim a).length≤1000000)(lb:(lim b).length≤1000000):Con Tryz.prog 265 false [.ag [.sl (lim (a)).length (qb (lim (a)))],.ag [.sl (lim (b)).length (qb (lim (b)))]] [] (isA (.ag [.sl (lim (a*b)).length (qb (lim (a*b)))])):=(ap7 false a b la lb).natF
theorem JP(a k:Nat)(la:(lim a).length≤400000)(hk:k≤5000000):Con Tryz.prog 235 false [.ag [.sl (lim (a)).length (qb (lim (a)))],.v (.int .i64 k)] [] (isA (.ag [.sl (lim (a*2^k)).length (qb (lim (a*2^k)))])):=(ap6 false a k la hk).natF
theorem zi(s:Bool)(m:Nat)(hl:(lim m).length≤2^39):Con Tryz.prog 202 false [.v (.bool s),.ag [.sl (lim (m)).length (qb (lim (m)))]] [] (isA (.ag [.v (.bool (s&&decide (m≠0))),.sl (lim (m)).length (qb (lim (m)))])):=by
 refine Con.frzA ?_
 refine Con.of_w (rs:=[.cell 4 27]) Tryz.func202 rfl Tryz.ntmps202 rfl ?_
 simp(disch:=omega)only[go_sem]
 refine qs rfl [⟨0,[],[]⟩,⟨1,[],[]⟩,⟨2,[],[]⟩,⟨3,[],[]⟩,⟨4,[],[]⟩,⟨5,[],[]⟩,⟨6,[],[]⟩,⟨7,[3],[]⟩,⟨8,[3],[]⟩,⟨9,[3],[]⟩,⟨10,[],[]⟩,⟨11,[],[]⟩] (by kernel_rfl) ?_
 simp(disch:=omega)only[go_sem]
 refine yP (fun h1=>?_) (fun h1=>?_)
 ·simp(disch:=omega)only[go_sem,h1,aOD]
  refine qa (Z0 m hl) ?_
  simp(disch:=omega)only[go_sem]
  exact qi (hp:=by simp(disch:=omega)only[go_sem,h1,Bool.true_and])
 ·simp(disch:=omega)only[go_sem,h1]
  refine qa (Z0 m hl) ?_
  simp(disch:=omega)only[go_sem]
  exact qi (hp:=by simp(disch:=omega)only[go_sem,h1,Bool.false_and])
theorem YG(n:Int)(h: -9223372036854775808≤n∧n<9223372036854775808):Con Tryz.prog 129 false [.v (.int .i64 n)] [] (isA (.ag [.v (.bool (decide (n<0))),.sl (lim (n.natAbs)).length (qb (lim (n.natAbs)))])):=by
 refine Con.frzA ?_
 refine Con.of_aw Tryz.func129 rfl Tryz.ntmps129 (by simp) (by simp) (by simp) (W.sound ?_)
 show @W Tryz.prog 15 ⟨_⟩ ⟨fun x σ=>@q7 _ _ _ ⟨_⟩ _ ⟨_⟩ x σ⟩ _ _
 simp(disch:=omega)only[go_sem]
 refine qe (fun h1=>?_) (fun h1=>?_)
 ·simp(disch:=omega)only[go_sem,h1]
  have e1:0-(n+1)=(((0-(n+1)).toNat:Nat):Int):=by omega
  refine qa (ZZ (0-(n+1)).toNat (by omega)) ?_ (by simp(disch:=omega)only[go_sem,←e1])
  simp(disch:=omega)only[go_sem]
  refine qa (ZZ 1 (by omega)) ?_
  simp(disch:=omega)only[go_sem]
  have l1:=qB (m:=(0-(n+1)).toNat) (B:=64) (zx.2 (by omega))
  have l2:=qB (m:=1) (B:=64) (by decide)
  refine qa (JS (0-(n+1)).toNat 1 (by omega) (by omega)) ?_
  simp(disch:=omega)only[go_sem]
  have e2:(0-(n+1)).toNat+1=n.natAbs:=by omega
  have l3:=qB (m:=(0-(n+1)).toNat+1) (B:=64) (zx.2 (by omega))
  refine qa (zi true ((0-(n+1)).toNat+1) (by omega)) ?_
  simp(disch:=omega)only[go_sem]
  refine qL (by simp(disch:=omega)only[go_sem]) ?_
  show qE _ 6 _=_
  have e3:decide (n.natAbs≠0)=true:=by simp;omega
  rw[e2]
  simp(disch:=omega)only[go_sem,e3,h1,Bool.true_and]
 ·simp(disch:=omega)only[go_sem,h1]
  have e1:n=((n.natAbs:Nat):Int):=by omega
  refine qa (ZZ n.natAbs (by omega)) ?_ (by simp(disch:=omega)only[go_sem,←e1])
  simp(disch:=omega)only[go_sem]
  have l3:=qB (m:=n.natAbs) (B:=64) (zx.2 (by omega))
  refine qa (zi false n.natAbs (by omega)) ?_
  simp(disch:=omega)only[go_sem]
  exact qi (hp:=by simp(disch:=omega)only[go_sem,h1,Bool.false_and])
theorem ap1(s1:Bool)(m1:Nat)(s2:Bool)(m2:Nat)(h1:bl m1≤4000000)(h2:bl m2≤4000000):Con Tryz.prog 213 false [.ag [.v (.bool (s1)),.sl (lim (m1)).length (qb (lim (m1)))],.ag [.v (.bool (s2)),.sl (lim (m2)).length (qb (lim (m2)))]] [] (isA (.ag [.v (.bool ((s1 != s2)&&decide (m1*m2≠0))),.sl (lim (m1*m2)).length (qb (lim (m1*m2)))])):=by
 refine Con.frzA ?_
 refine Con.of_w (rs:=[.cell 4 27]) Tryz.func213 rfl Tryz.ntmps213 rfl ?_
 simp(disch:=omega)only[go_sem]
 have l1:=qB h1
 have l2:=qB h2
 refine qs rfl [⟨0,[],[]⟩,⟨1,[],[]⟩,⟨2,[1],[]⟩,⟨3,[1],[]⟩,⟨4,[],[]⟩,⟨5,[1,3],[]⟩,⟨6,[1,3],[]⟩,⟨7,[1,3,6],[]⟩,⟨8,[1,3,6],[]⟩,⟨9,[1,3],[]⟩,⟨10,[],[]⟩,⟨11,[],[]⟩] (by kernel_rfl) ?_
 simp(disch:=omega)only[go_sem]
 refine qa (ajm m1 m2 (by omega) (by omega)) ?_
 simp(disch:=omega)only[go_sem]
 have l3:=qB (Nat.le_trans (yy m1 m2) (Nat.add_le_add h1 h2))
 refine qa (zi (s1 != s2) (m1*m2) (by omega)) ?_
 simp(disch:=omega)only[go_sem]
 exact qi
theorem jP(s:Bool)(m:Nat)(e:Int)(hm:bl m≤8000000)(he: -2^40≤e∧e≤2^40):Con Tryz.prog 156 false [.ag [.v (.bool (s)),.sl (lim (m)).length (qb (lim (m)))],.v (.int .i64 e)] [] (isA (.ag [.v (.bool (oS s m)),.sl (lim (oM m)).length (qb (lim (oM m))),.v (.int .i64 (oE m e))])):=by
 refine Con.frzA ?_
 refine Con.of_aw Tryz.func156 rfl Tryz.ntmps156 (by simp) (by simp) (by simp) (W.sound ?_)
 show @W Tryz.prog 26 ⟨_⟩ ⟨fun x σ=>@q7 _ _ _ ⟨_⟩ _ ⟨_⟩ x σ⟩ _ _
 simp(disch:=omega)only[go_sem]
 have hl:=qB hm
 refine qe (fun h1=>?_) (fun h1=>?_)
 ·simp(disch:=omega)only[go_sem,h1]
  have h0:m=0:=qF.1 (List.length_eq_zero_iff.1 (by omega))
  subst h0
  refine qL (by simp(disch:=omega)only[go_sem]) ?_
  show qE _ 6 _=_
  simp only[oS,ZE,oE,qm,if_true]
  simp(disch:=omega)only[go_sem]
 ·have h0:m≠0:=fun e=>h1 (by rw[e,qm];rfl)
  have ht:=yl h0
  simp(disch:=omega)only[go_sem,h1]
  refine ql (adK m (by omega)) ?_
  simp(disch:=omega)only[go_sem]
  refine qs rfl [⟨0,[],[]⟩,⟨1,[],[]⟩,⟨2,[1],[]⟩,⟨3,[1],[]⟩,⟨4,[1,3],[]⟩,⟨7,[1,3],[]⟩,⟨8,[1,3],[]⟩,⟨9,[1,3],[]⟩,⟨5,[1],[]⟩,⟨6,[],[]⟩,⟨10,[],[]⟩,⟨11,[],[]⟩] (by kernel_rfl) ?_
  simp(disch:=omega)only[go_sem]
  refine qa (ap5 m (tz m) (by omega) (by omega)) ?_
  simp(disch:=omega)only[go_sem]
  have l3:=qB (Nat.le_trans (YT m (2^tz m)) hm)
  refine qa (zi s (m/2^tz m) (by omega)) ?_
  simp(disch:=omega)only[go_sem]
  refine qL (by simp(disch:=omega)only[go_sem]) ?_
  show qE _ 6 _=_
  have h3:decide (m/2^tz m≠0)=true:=by
   have:=(y6 h0).1
   simp only[decide_eq_true_eq];omega
  simp only[oS,oM,oE,if_neg h0]
  simp(disch:=omega)only[go_sem,h3,Bool.and_true]
theorem apX(s1:Bool)(m1:Nat)(e1:Int)(s2:Bool)(m2:Nat)(e2:Int)(h1:bl m1≤4000000)(h2:bl m2≤4000000)(he1: -2^39≤e1∧e1≤2^39)(he2: -2^39≤e2∧e2≤2^39):
  Con Tryz.prog 140 false [.ag [.v (.bool (s1)),.sl (lim (m1)).length (qb (lim (m1))),.v (.int .i64 (e1))],.ag [.v (.bool (s2)),.sl (lim (m2)).length (qb (lim (m2))),.v (.int .i64 (e2))]] [] (isA (.ag [.v (.bool (oS ((s1 != s2)&&decide (m1*m2≠0)) (m1*m2))),.sl (lim (oM (m1*m2))).length (qb (lim (oM (m1*m2)))),.v (.int .i64 (oE (m1*m2) (e1+e2)))])):=by
 refine Con.frzA ?_
 refine Con.of_w (rs:=[.cell 4 29]) Tryz.func140 rfl Tryz.ntmps140 rfl ?_
 simp(disch:=omega)only[go_sem]
 refine qs rfl [⟨0,[],[]⟩,⟨1,[],[]⟩,⟨2,[1],[]⟩,⟨3,[1],[]⟩,⟨5,[1,3],[]⟩,⟨6,[1,3],[]⟩,⟨7,[1,3,6],[]⟩,⟨8,[1,3,6],[]⟩,⟨9,[1,3],[]⟩,⟨4,[6,8],[]⟩,⟨10,[],[]⟩,⟨11,[],[]⟩] (by kernel_rfl) ?_
 simp(disch:=omega)only[go_sem]
 refine qa (ap1 s1 m1 s2 m2 h1 h2) ?_
 simp(disch:=omega)only[go_sem]
 have h3:=Nat.le_trans (yy m1 m2) (Nat.add_le_add h1 h2)
 refine qa (jP ((s1 != s2)&&decide (m1*m2≠0)) (m1*m2) (e1+e2) (by omega) (by omega)) ?_
 simp(disch:=omega)only[go_sem]
 exact qi
end Go.Ab
namespace Go.Ab
open Go Go.Proofs
theorem Z1(a b:Nat)(la:(lim a).length≤2^40)(lb:(lim b).length≤2^40):
  Con Tryz.prog 236 true [.ag [.sl (lim (a)).length (qb (lim (a)))],.ag [.sl (lim (b)).length (qb (lim (b)))]] [] (isA (.v (.int .i64 (zy a b)))):=by
 refine Con.of_w (rs:=[.tmp 4]) Tryz.func236 rfl Tryz.ntmps236 rfl ?_
 simp(disch:=omega)only[go_sem]
 refine zA (fun h1=>?_) (fun h1=>?_)
 ·simp(disch:=omega)only[go_sem,h1]
  refine qe (fun h2=>?_) (fun h2=>?_)
  ·simp(disch:=omega)only[go_sem,h2]
   have:=Qa (a:=a) (b:=b) (by omega)
   rw[show zy (a:Int) (b:Int)= -1 by unfold zy;rw[if_pos (by omega)]]
   exact qx
  ·simp(disch:=omega)only[go_sem,h2]
   have:=Qa (a:=b) (b:=a) (by omega)
   rw[show zy (a:Int) (b:Int)=1 by unfold zy;rw[if_neg (by omega),if_pos (by omega)]]
   exact qx
 ·simp(disch:=omega)only[go_sem,h1]
  have hl:(lim a).length=(lim b).length:=by omega
  refine qj (fun k:Nat=>[(2,.pt 40000000 0),(3,.pt 50000000 0),(5,.v (.int .i64 ((k:Int)-1)))])
   (fun _=>[(40000000,.own 0 [.sl (lim (a)).length (qb (lim (a)))]),(50000000,.own 0 [.sl (lim (b)).length (qb (lim (b)))])]) (fun k=>k≤(lim a).length∧(lim a).drop k=(lim b).drop k) (fun k=>k) (lim a).length ⟨Nat.le_refl _,by rw[List.drop_length,hl,List.drop_length]⟩ (Le.lst [] _ _ rfl (by simp(disch:=omega)only[go_sem];try omega) (by simp(disch:=omega)only[go_sem])) ?_
  rintro k ⟨hk,hd⟩
  simp(disch:=omega)only[go_sem]
  refine qe (fun h2=>?_) (fun h2=>?_)
  ·obtain⟨i,rfl⟩:∃i,k=i+1:=⟨k-1,by omega⟩
   have ei:((i+1:Nat):Int)-1=(i:Nat):=by omega
   have hva:=qZ a
   have hvb:=qZ b
   simp(disch:=omega)only[go_sem,h2,ei]
   refine qs rfl [⟨0,[],[]⟩,⟨1,[],[]⟩,⟨2,[1],[]⟩,⟨3,[],[]⟩,⟨4,[],[]⟩,⟨5,[1,4],[]⟩,⟨6,[1,4],[]⟩,⟨7,[1,4,6],[]⟩,⟨8,[1,4],[]⟩,⟨9,[1,4],[]⟩,⟨10,[],[]⟩] (by kernel_rfl) ?_
   simp(disch:=omega)only[go_sem,ei]
   refine⟨by omega,by omega,by omega,by omega,?_⟩
   refine qe (fun h3=>?_) (fun h3=>?_)
   ·simp(disch:=omega)only[go_sem,h3]
    have:=Q2 (q6 a) (q6 b) (by omega) hl hd h3
    rw[show zy (a:Int) (b:Int)= -1 by unfold zy;rw[if_pos (by omega)]]
    exact qx
   ·simp(disch:=omega)only[go_sem,h3]
    refine qs rfl [⟨0,[],[]⟩,⟨1,[],[]⟩,⟨2,[1],[]⟩,⟨3,[],[]⟩,⟨4,[],[]⟩,⟨5,[1,4],[]⟩,⟨6,[1,4],[]⟩,⟨7,[1,4,6],[]⟩,⟨8,[1,4],[]⟩,⟨9,[1,4],[]⟩,⟨10,[],[]⟩] (by kernel_rfl) ?_
    simp(disch:=omega)only[go_sem,ei]
    refine⟨by omega,by omega,by omega,by omega,?_⟩
    refine qe (fun h4=>?_) (fun h4=>?_)
    ·simp(disch:=omega)only[go_sem,h4]
     have:=Q2 (q6 b) (q6 a) (by omega) hl.symm hd.symm h4
     rw[show zy (a:Int) (b:Int)=1 by unfold zy;rw[if_neg (by omega),if_pos (by omega)]]
     exact qx
    ·simp(disch:=omega)only[go_sem,h4]
     refine qc i [] ⟨by omega,?_⟩ (by show i<i+1;omega) rfl (by simp(disch:=omega)only[go_sem];try omega) (by simp(disch:=omega)only[go_sem])
     have h5:(lim a).getD i 0=(lim b).getD i 0:=by omega
     rw[yh (l:=lim a) (by omega),yh (l:=lim b) (by omega),h5,hd]
  ·simp(disch:=omega)only[go_sem,h2]
   have:k=0:=by omega
   subst this
   rw[List.drop_zero,List.drop_zero]at hd
   have:=je hd
   subst this
   rw[show zy (a:Int) (a:Int)=0 by simp[zy]]
   exact qx
theorem ap4(cl:Bool)(a b:Nat)(hle:b≤a)(la:(lim a).length≤1000000):Con Tryz.prog 258 cl [.ag [.sl (lim (a)).length (qb (lim (a)))],.ag [.sl (lim (b)).length (qb (lim (b)))]] [] (aBa (a-b)):=by
 have lB:(lim b).length≤(lim a).length:=y9 hle
 have hA:=q6 a
 have hB:=q6 b
 refine Con.of_aw Tryz.func258 rfl Tryz.ntmps258 (by simp) (by simp) (by simp) (W.sound ?_)
 show @W Tryz.prog 45 ⟨_⟩ ⟨fun x σ=>@q7 _ _ _ ⟨_⟩ _ ⟨_⟩ x σ⟩ _ _
 simp(disch:=omega)only[go_sem]
 refine qj (fun x:Nat×List Int×Int=>[(2,.pt 2 0),(3,.pt 3 0),(4,.pt 4 0),(5,.rf 1 0 x.2.1.length),(6,.v (.int .i64 x.2.2)),(7,.v (.int .i64 x.1))])
  (fun x=>[(1,.own 1 (qb x.2.1)),(2,.own 0 [.sl (lim (a)).length (qb (lim (a)))]),(3,.own 0 [.sl (lim (b)).length (qb (lim (b)))]),(4,.own 0 [.v (.slice none 0 0)])])
  (fun x=>x.1≤(lim a).length∧x.2.1.length=x.1∧gd x.2.1∧(0≤x.2.2∧x.2.2≤1)∧vl x.2.1-65536^x.1*x.2.2=vl ((lim a).take x.1)-vl ((lim b).take x.1))
  (fun x=>(lim a).length-x.1) (0,[],0) ⟨by simp,rfl,ZP,by simp,by simp[vl]⟩
  ((Le.ghost 5 1 1 (by simp(disch:=omega)only[go_sem]) (by simp(disch:=omega)only[go_sem])).trans (Le.lst [(2,40000000),(3,50000000),(4,60000000)] _ _ rfl (by simp(disch:=omega)only[go_sem]) (by simp(disch:=omega)only[go_sem]))) ?_
 rintro⟨i,out,bo⟩ ⟨hi,hol,hog,hbo,hov⟩
 dsimp only at hi hol hog hbo hov ⊢
 simp(disch:=omega)only[go_sem]
 refine qe (fun h1=>?_) (fun h1=>?_)
 ·have hx:=qH hA i
  have hy:=qH hB i
  have hstep:∀z b':Int,(lim a).getD i 0-bo-(lim b).getD i 0=z-65536*b'→vl (out++[z])-65536^(i+1)*b'=vl ((lim a).take (i+1))-vl ((lim b).take (i+1)):=by
   intro z b' hz
   rw[jn,qO,qO,hol,Int.pow_succ]
   generalize (65536:Int)^i=Pi at*
   grind
  have hyz:¬i<(lim b).length→(lim b).getD i 0=0:=fun h=>by rw[List.getD_eq_getElem?_getD,List.getElem?_eq_none (by omega)];rfl
  simp(disch:=omega)only[go_sem,h1]
  refine⟨by omega,by omega,qe (fun h2=>?_) (fun h2=>?_)⟩
  ·simp(disch:=omega)only[go_sem,h2]
   refine⟨by omega,by omega,qe (fun h3=>?_) (fun h3=>?_)⟩
   ·simp(disch:=omega)only[go_sem,h3]
    refine⟨by omega,qc (i+1,out++[(lim a).getD i 0-bo-(lim b).getD i 0+65536],1) [(1,440000000)] ⟨by show i+1≤_;omega,by simp[hol],qD.2 ⟨hog,zN.2 (by omega)⟩,by simp,hstep ((lim a).getD i 0-bo-(lim b).getD i 0+65536) 1 (by omega)⟩ (by show(lim a).length-(i+1)<(lim a).length-i;omega) rfl (by simp(disch:=omega)only[go_sem,List.length_append];try omega) (by simp(disch:=omega)only[go_sem])⟩
   ·simp(disch:=omega)only[go_sem,h3]
    refine⟨by omega,qc (i+1,out++[(lim a).getD i 0-bo-(lim b).getD i 0],0) [(1,440000000)] ⟨by show i+1≤_;omega,by simp[hol],qD.2 ⟨hog,zN.2 (by omega)⟩,by simp,hstep ((lim a).getD i 0-bo-(lim b).getD i 0) 0 (by omega)⟩ (by show(lim a).length-(i+1)<(lim a).length-i;omega) rfl (by simp(disch:=omega)only[go_sem,List.length_append];try omega) (by simp(disch:=omega)only[go_sem])⟩
  ·simp(disch:=omega)only[go_sem,h2]
   refine qe (fun h3=>?_) (fun h3=>?_)
   ·simp(disch:=omega)only[go_sem,h3]
    have hy0:=hyz (by omega)
    refine⟨by omega,qc (i+1,out++[(lim a).getD i 0-bo+65536],1) [(1,440000000)] ⟨by show i+1≤_;omega,by simp[hol],qD.2 ⟨hog,zN.2 (by omega)⟩,by simp,hstep ((lim a).getD i 0-bo+65536) 1 (by omega)⟩ (by show(lim a).length-(i+1)<(lim a).length-i;omega) rfl (by simp(disch:=omega)only[go_sem,List.length_append];try omega) (by simp(disch:=omega)only[go_sem])⟩
   ·simp(disch:=omega)only[go_sem,h3]
    have hy0:=hyz (by omega)
    refine⟨by omega,qc (i+1,out++[(lim a).getD i 0-bo],0) [(1,440000000)] ⟨by show i+1≤_;omega,by simp[hol],qD.2 ⟨hog,zN.2 (by omega)⟩,by simp,hstep ((lim a).getD i 0-bo) 0 (by omega)⟩ (by show(lim a).length-(i+1)<(lim a).length-i;omega) rfl (by simp(disch:=omega)only[go_sem,List.length_append];try omega) (by simp(disch:=omega)only[go_sem])⟩
 ·simp(disch:=omega)only[go_sem,h1]
  have hiA:i=(lim a).length:=by omega
  subst hiA
  rw[List.take_length,List.take_of_length_le lB]at hov
  have hva:=qZ a
  have hvb:=qZ b
  have hb0:bo=0:=by
   have h2:=Ql hog
   rw[hol]at h2
   rcases(by omega:bo=0∨bo=1)with h|h
   ·exact h
   ·subst h;omega
  subst hb0
  have hov2:vl out=((a-b:Nat):Int):=by omega
  refine qA (jm true out (a-b) (by omega) hog hov2) (by simp(disch:=omega)only[go_sem]) ?_
  rintro r hs (⟨h0,rfl,rfl⟩|⟨zs,rfl,rfl⟩)
  ·refine⟨⟨by simp,by simp(disch:=omega)only[go_sem]⟩,?_⟩
   simp(disch:=omega)only[go_sem]
   refine qg [] [] [] [.ag [.v (.slice none 0 0)]] rfl (by simp(disch:=omega)only[go_sem]) (by simp(disch:=omega)only[go_sem]) (by simp) (by intro _;simp[zh,AV.pu,AV.pu.puL,Ob.pu,qV]) (.inl ⟨h0,rfl,rfl⟩)
  ·refine⟨⟨by simp,by simp(disch:=omega)only[go_sem]⟩,?_⟩
   simp(disch:=omega)only[go_sem]
   refine qg [(0,460000000)] [.own 1 (qb (lim (a-b)++zs))] [] [.ag [.rf 0 0 (lim (a-b)).length]] rfl (by simp(disch:=omega)only[go_sem]) (by simp(disch:=omega)only[go_sem]) (by simp) (by intro _;simp[zh,AV.pu,AV.pu.puL,Ob.pu,qV]) (.inr ⟨zs,rfl,rfl⟩)
end Go.Ab
namespace Go.Ab
open Go Go.Proofs
theorem JO(a b:Nat)(hle:b≤a)(la:(lim a).length≤1000000):Con Tryz.prog 258 false [.ag [.sl (lim (a)).length (qb (lim (a)))],.ag [.sl (lim (b)).length (qb (lim (b)))]] [] (isA (.ag [.sl (lim (a-b)).length (qb (lim (a-b)))])):=(ap4 false a b hle la).natF
theorem ap3(s1:Bool)(m1:Nat)(s2:Bool)(m2:Nat)(h1:bl m1≤6000000)(h2:bl m2≤6000000):
  Con Tryz.prog 201 false [.ag [.v (.bool (s1)),.sl (lim (m1)).length (qb (lim (m1)))],.ag [.v (.bool (s2)),.sl (lim (m2)).length (qb (lim (m2)))]] [] (isA (.ag [.v (.bool (suS s1 m1 s2 m2)),.sl (lim (suM s1 m1 s2 m2)).length (qb (lim (suM s1 m1 s2 m2)))])):=by
 refine Con.frzA ?_
 have l1:=qB h1
 have l2:=qB h2
 have hge:(0≤zy (m1:Int) (m2:Int))↔m2≤m1:=by rw[aqm.2.2];omega
 have hb:=aan (s1:=s1) (s2:=s2) h1 h2
 have l3:=qB hb
 rw[←an8]
 refine Con.of_w (rs:=[.cell 4 27]) Tryz.func201 rfl Tryz.ntmps201 rfl ?_
 simp(disch:=omega)only[go_sem]
 refine yP (fun c1=>?_) (fun c1=>?_)
 ·have c1':s1=s2:=by simpa using c1
  simp(disch:=omega)only[go_sem,c1]
  subst c1'
  rw[ael,aek]at*
  refine qs rfl [⟨0,[],[]⟩,⟨1,[],[]⟩,⟨2,[1],[]⟩,⟨3,[1],[]⟩,⟨4,[1,3],[]⟩,⟨5,[1,3],[]⟩,⟨6,[1],[]⟩,⟨7,[],[]⟩,⟨8,[],[]⟩] (by kernel_rfl) ?_
  simp(disch:=omega)only[go_sem]
  refine qa (JS m1 m2 (by omega) (by omega)) ?_
  simp(disch:=omega)only[go_sem]
  refine qa (zi s1 (m1+m2) (by omega)) ?_
  simp(disch:=omega)only[go_sem]
  exact qi
 ·have c1':s1≠s2:=by simpa using c1
  simp(disch:=omega)only[go_sem,c1]
  refine ql (Z1 m1 m2 (by omega) (by omega)) ?_
  simp(disch:=omega)only[go_sem]
  refine qe (fun c2=>?_) (fun c2=>?_)
  ·have c2':m2≤m1:=hge.1 (by omega)
   rw[aD4 c1' c2',aDX c1' c2']at*
   simp(disch:=omega)only[go_sem,c2]
   refine qs rfl [⟨0,[],[]⟩,⟨1,[],[]⟩,⟨2,[1],[]⟩,⟨3,[1],[]⟩,⟨4,[1,3],[]⟩,⟨5,[1,3],[]⟩,⟨6,[1],[]⟩,⟨7,[],[]⟩,⟨8,[],[]⟩] (by kernel_rfl) ?_
   simp(disch:=omega)only[go_sem]
   refine qa (JO m1 m2 c2' (by omega)) ?_
   simp(disch:=omega)only[go_sem]
   refine qa (zi s1 (m1-m2) (by omega)) ?_
   simp(disch:=omega)only[go_sem]
   exact qi
  ·have c2':¬m2≤m1:=fun h=>c2 (by have:=hge.2 h;omega)
   rw[aD3 c1' c2',aDW c1' c2']at*
   simp(disch:=omega)only[go_sem,c2]
   refine qs rfl [⟨0,[],[]⟩,⟨1,[],[]⟩,⟨2,[1],[]⟩,⟨3,[1],[]⟩,⟨4,[1,3],[]⟩,⟨5,[1,3],[]⟩,⟨6,[1],[]⟩,⟨7,[],[]⟩,⟨8,[],[]⟩] (by kernel_rfl) ?_
   simp(disch:=omega)only[go_sem]
   refine qa (JO m2 m1 (by omega) (by omega)) ?_
   simp(disch:=omega)only[go_sem]
   refine qa (zi s2 (m2-m1) (by omega)) ?_
   simp(disch:=omega)only[go_sem]
   exact qi
theorem ap0(s:Bool)(m:Nat)(hl:(lim m).length≤2^39):Con Tryz.prog 257 false [.ag [.v (.bool (s)),.sl (lim (m)).length (qb (lim (m)))]] [] (isA (.ag [.v (.bool ((!s)&&decide (m≠0))),.sl (lim (m)).length (qb (lim (m)))])):=by
 refine Con.frzA ?_
 refine Con.of_w (rs:=[.cell 2 27]) Tryz.func257 rfl Tryz.ntmps257 rfl ?_
 simp(disch:=omega)only[go_sem]
 refine qa (zi (!s) m hl) ?_
 simp(disch:=omega)only[go_sem]
 exact qi
theorem apW(s:Bool)(m:Nat)(e:Int)(hl:(lim m).length≤2^39):Con Tryz.prog 199 false [.ag [.v (.bool (s)),.sl (lim (m)).length (qb (lim (m))),.v (.int .i64 (e))]] [] (isA (.ag [.v (.bool ((!s)&&decide (m≠0))),.sl (lim (m)).length (qb (lim (m))),.v (.int .i64 (e))])):=by
 refine Con.frzA ?_
 refine Con.of_w (rs:=[.cell 2 29]) Tryz.func199 rfl Tryz.ntmps199 rfl ?_
 simp(disch:=omega)only[go_sem]
 refine qs rfl [⟨0,[],[]⟩,⟨1,[],[]⟩,⟨3,[1],[]⟩,⟨4,[1],[]⟩,⟨2,[4],[]⟩,⟨5,[],[]⟩,⟨6,[],[]⟩] (by kernel_rfl) ?_
 simp(disch:=omega)only[go_sem]
 refine qa (ap0 s m hl) ?_
 simp(disch:=omega)only[go_sem]
 exact qi
def alF(m1:Nat)(e1:Int)(m2:Nat)(e2:Int):Int:=if m1=0 then e2 else if m2=0 then e1 else if e1≤e2 then e1 else e2
theorem aTn(m1:Nat)(e1:Int)(m2:Nat)(e2:Int)(h:¬(m1=0∧m2=0)):alF m1 e1 m2 e2=alE m1 e1 m2 e2:=by
 unfold alF alE
 repeat' split
 all_goals omega
theorem ZY(s1:Bool)(m1:Nat)(e1:Int)(s2:Bool)(m2:Nat)(e2:Int)(h1:bl m1≤4000000)(h2:bl m2≤4000000)(he1: -1000000≤e1∧e1≤1000000)(he2: -1000000≤e2∧e2≤1000000)(z1:m1=0→s1=false)(z2:m2=0→s2=false):
  Con Tryz.prog 157 false [.ag [.v (.bool (s1)),.sl (lim (m1)).length (qb (lim (m1))),.v (.int .i64 (e1))],.ag [.v (.bool (s2)),.sl (lim (m2)).length (qb (lim (m2))),.v (.int .i64 (e2))]] [] (isA (.tu [.ag [.v (.bool (s1)),.sl (lim (alA m1 e1 (alE m1 e1 m2 e2))).length (qb (lim (alA m1 e1 (alE m1 e1 m2 e2))))],.ag [.v (.bool (s2)),.sl (lim (alA m2 e2 (alE m1 e1 m2 e2))).length (qb (lim (alA m2 e2 (alE m1 e1 m2 e2))))],.v (.int .i64 (alF m1 e1 m2 e2))])):=by
 refine Con.frzA ?_
 have l1:=qB h1
 have l2:=qB h2
 refine Con.of_aw Tryz.func157 rfl Tryz.ntmps157 (by simp) (by simp) (by simp) (W.sound ?_)
 show @W Tryz.prog 70 ⟨_⟩ ⟨fun x σ=>@q7 _ _ _ ⟨_⟩ _ ⟨_⟩ x σ⟩ _ _
 simp(disch:=omega)only[go_sem]
 refine qe (fun c1=>?_) (fun c1=>?_)
 ·have y1:m1=0:=qF.1 (List.length_eq_zero_iff.1 (by omega))
  have eF:alF m1 e1 m2 e2=e2:=by unfold alF;rw[if_pos y1]
  have a1:alA m1 e1 (alE m1 e1 m2 e2)=m1:=by rw[y1];unfold alA;rw[Nat.zero_mul]
  have a2:alA m2 e2 (alE m1 e1 m2 e2)=m2:=by
   by_cases y2:m2=0
   ·rw[y2];unfold alA;rw[Nat.zero_mul]
   ·unfold alA alE;rw[if_neg y2,if_pos y1,Int.sub_self];simp
  simp(disch:=omega)only[go_sem,c1]
  refine qs rfl [⟨0,[],[]⟩,⟨1,[],[]⟩,⟨2,[1],[]⟩,⟨3,[1],[]⟩,⟨4,[1,3],[]⟩,⟨5,[1,3],[]⟩,⟨6,[3,5],[]⟩,⟨7,[5],[]⟩,⟨8,[],[]⟩] (by kernel_rfl) ?_
  simp(disch:=omega)only[go_sem]
  refine qL (by simp(disch:=omega)only[go_sem]) ?_
  show qE _ 6 _=_
  rw[eF,a1,a2]
  simp(disch:=omega)only[go_sem]
 ·have y1:m1≠0:=fun e=>c1 (by rw[e,qm];rfl)
  simp(disch:=omega)only[go_sem,c1]
  refine qe (fun c2=>?_) (fun c2=>?_)
  ·have y2:m2=0:=qF.1 (List.length_eq_zero_iff.1 (by omega))
   have eF:alF m1 e1 m2 e2=e1:=by unfold alF;rw[if_neg y1,if_pos y2]
   have a1:alA m1 e1 (alE m1 e1 m2 e2)=m1:=by unfold alA alE;rw[if_pos y2,Int.sub_self];simp
   have a2:alA m2 e2 (alE m1 e1 m2 e2)=m2:=by rw[y2];unfold alA;rw[Nat.zero_mul]
   simp(disch:=omega)only[go_sem,c2]
   refine qs rfl [⟨0,[],[]⟩,⟨1,[],[]⟩,⟨2,[1],[]⟩,⟨3,[1],[]⟩,⟨4,[1,3],[]⟩,⟨5,[1,3],[]⟩,⟨6,[3,5],[]⟩,⟨7,[5],[]⟩,⟨8,[],[]⟩] (by kernel_rfl) ?_
   simp(disch:=omega)only[go_sem]
   refine qL (by simp(disch:=omega)only[go_sem]) ?_
   show qE _ 6 _=_
   rw[eF,a1,a2]
   simp(disch:=omega)only[go_sem]
  ·have y2:m2≠0:=fun e=>c2 (by rw[e,qm];rfl)
   simp(disch:=omega)only[go_sem,c2]
   refine qe (fun c3=>?_) (fun c3=>?_)
   ·have eF:alF m1 e1 m2 e2=e1:=by unfold alF;rw[if_neg y1,if_neg y2,if_pos c3]
    have eE:alE m1 e1 m2 e2=e1:=by unfold alE;rw[if_neg y2,if_neg y1,if_neg (by omega)]
    have a1:alA m1 e1 (alE m1 e1 m2 e2)=m1:=by rw[eE];unfold alA;rw[Int.sub_self];simp
    have ek:e2-e1=(((e2-e1).toNat:Nat):Int):=by omega
    have hb:bl (m2*2^(e2-e1).toNat)≤6000000:=by have:=YR m2 (e2-e1).toNat;omega
    have l3:=qB hb
    have hn:m2*2^(e2-e1).toNat≠0:=Nat.mul_ne_zero y2 (Nat.pos_iff_ne_zero.1 (Nat.pow_pos (by omega)))
    have hd:decide (m2*2^(e2-e1).toNat≠0)=true:=decide_eq_true hn
    simp(disch:=omega)only[go_sem,c3]
    refine qs rfl [⟨0,[],[]⟩,⟨1,[],[]⟩,⟨2,[1],[]⟩,⟨3,[1],[]⟩,⟨4,[1],[]⟩,⟨5,[1,4],[]⟩,⟨6,[1,4],[]⟩,⟨7,[1,4],[]⟩,⟨8,[1,4,7],[]⟩,⟨9,[1,4,7],[]⟩,⟨10,[1,4,7,9],[]⟩,⟨11,[1,4,7,9],[]⟩,⟨12,[1,4,7],[]⟩,⟨15,[1,4,7,9,11],[]⟩,⟨16,[1,4,7,9,11],[]⟩,⟨13,[1,4,16],[]⟩,⟨14,[1,16],[]⟩,⟨17,[16],[]⟩,⟨18,[16],[]⟩,⟨19,[],[]⟩] (by kernel_rfl) ?_
    simp(disch:=omega)only[go_sem]
    refine qN (JP m2 (e2-e1).toNat (by omega) (by omega)) (by simp(disch:=omega)only[go_sem,←ek]) ?_
    rintro r hs ⟨rfl,rfl,_⟩
    refine⟨by simp[qM],?_⟩
    simp(disch:=omega)only[go_sem]
    refine qa (zi s2 (m2*2^(e2-e1).toNat) (by omega)) ?_
    simp(disch:=omega)only[go_sem]
    refine qL (by simp(disch:=omega)only[go_sem]) ?_
    show qE _ 6 _=_
    rw[eF,a1,eE,hd];unfold alA
    simp(disch:=omega)only[go_sem,Bool.and_true]
   ·have eF:alF m1 e1 m2 e2=e2:=by unfold alF;rw[if_neg y1,if_neg y2,if_neg c3]
    have eE:alE m1 e1 m2 e2=e2:=by unfold alE;rw[if_neg y2,if_neg y1,if_pos (by omega)]
    have a2:alA m2 e2 (alE m1 e1 m2 e2)=m2:=by rw[eE];unfold alA;rw[Int.sub_self];simp
    have ek:e1-e2=(((e1-e2).toNat:Nat):Int):=by omega
    have hb:bl (m1*2^(e1-e2).toNat)≤6000000:=by have:=YR m1 (e1-e2).toNat;omega
    have l3:=qB hb
    have hn:m1*2^(e1-e2).toNat≠0:=Nat.mul_ne_zero y1 (Nat.pos_iff_ne_zero.1 (Nat.pow_pos (by omega)))
    have hd:decide (m1*2^(e1-e2).toNat≠0)=true:=decide_eq_true hn
    simp(disch:=omega)only[go_sem,c3]
    refine qs rfl [⟨0,[],[]⟩,⟨1,[],[]⟩,⟨2,[],[]⟩,⟨3,[2],[]⟩,⟨4,[2],[]⟩,⟨5,[2],[]⟩,⟨6,[2,5],[]⟩,⟨7,[2,5],[]⟩,⟨8,[2,5,7],[]⟩,⟨9,[2,5,7],[]⟩,⟨10,[2,5],[]⟩,⟨13,[2,5,7,9],[]⟩,⟨14,[2,5,7,9],[]⟩,⟨15,[2,5,7,9,14],[]⟩,⟨16,[2,5,7,9,14],[]⟩,⟨11,[2,14,16],[]⟩,⟨12,[14,16],[]⟩,⟨17,[14,16],[]⟩,⟨18,[16],[]⟩,⟨19,[],[]⟩] (by kernel_rfl) ?_
    simp(disch:=omega)only[go_sem]
    refine qN (JP m1 (e1-e2).toNat (by omega) (by omega)) (by simp(disch:=omega)only[go_sem,←ek]) ?_
    rintro r hs ⟨rfl,rfl,_⟩
    refine⟨by simp[qM],?_⟩
    simp(disch:=omega)only[go_sem]
    refine qa (zi s1 (m1*2^(e1-e2).toNat) (by omega)) ?_
    simp(disch:=omega)only[go_sem]
    refine qL (by simp(disch:=omega)only[go_sem]) ?_
    show qE _ 6 _=_
    rw[eF,a2,eE,hd];unfold alA
    simp(disch:=omega)only[go_sem,Bool.and_true]
theorem apZ(s1:Bool)(m1:Nat)(e1:Int)(s2:Bool)(m2:Nat)(e2:Int)(h1:bl m1≤4000000)(h2:bl m2≤4000000)(he1: -1000000≤e1∧e1≤1000000)(he2: -1000000≤e2∧e2≤1000000)(z1:m1=0→s1=false)(z2:m2=0→s2=false):
  Con Tryz.prog 126 false [.ag [.v (.bool (s1)),.sl (lim (m1)).length (qb (lim (m1))),.v (.int .i64 (e1))],.ag [.v (.bool (s2)),.sl (lim (m2)).length (qb (lim (m2))),.v (.int .i64 (e2))]] [] (isA (.ag [.v (.bool (oS (adS s1 m1 e1 s2 m2 e2) (adM s1 m1 e1 s2 m2 e2))),.sl (lim (oM (adM s1 m1 e1 s2 m2 e2))).length (qb (lim (oM (adM s1 m1 e1 s2 m2 e2)))),.v (.int .i64 (oE (adM s1 m1 e1 s2 m2 e2) (alE m1 e1 m2 e2)))])):=by
 refine Con.frzA ?_
 have hE:=yG (m1:=m1) (m2:=m2) he1.1 he2.1
 have b1:=yF (e:=e1) (E:=alE m1 e1 m2 e2) (C:=2000000) h1 (by omega)
 have b2:=yF (e:=e2) (E:=alE m1 e1 m2 e2) (C:=2000000) h2 (by omega)
 have hF: -1000000≤alF m1 e1 m2 e2∧alF m1 e1 m2 e2≤1000000:=by
  unfold alF
  repeat' split
  all_goals omega
 have hX:oE (adM s1 m1 e1 s2 m2 e2) (alE m1 e1 m2 e2)=oE (adM s1 m1 e1 s2 m2 e2) (alF m1 e1 m2 e2):=by
  by_cases h:m1=0∧m2=0
  ·have:adM s1 m1 e1 s2 m2 e2=0:=by rw[h.1,h.2];unfold adM alA;rw[Nat.zero_mul,Nat.zero_mul];unfold suM;rw[j8,j8];rfl
   rw[this];rfl
  ·rw[aTn _ _ _ _ h]
 rw[hX]
 have l1:=qB h1
 have l2:=qB h2
 refine Con.of_w (rs:=[.cell 4 29]) Tryz.func126 rfl Tryz.ntmps126 rfl ?_
 simp(disch:=omega)only[go_sem]
 refine qa (ZY s1 m1 e1 s2 m2 e2 h1 h2 he1 he2 z1 z2) ?_
 simp(disch:=omega)only[go_sem]
 unfold adS adM
 generalize alA m1 e1 (alE m1 e1 m2 e2)=A at*
 generalize alA m2 e2 (alE m1 e1 m2 e2)=B at*
 generalize alF m1 e1 m2 e2=E at*
 refine qa (ap3 s1 A s2 B (by omega) (by omega)) ?_
 simp(disch:=omega)only[go_sem]
 have hb:=aan (s1:=s1) (s2:=s2) b1 b2
 refine qa (jP (suS s1 A s2 B) (suM s1 A s2 B) E (by omega) (by omega)) ?_
 simp(disch:=omega)only[go_sem]
 exact qi
end Go.Ab
namespace Go.Ab
open Go Go.Proofs
def srM(s:Bool)(m:Nat)(e low mode:Int):Nat:=oM (roM s m e low mode)
def srE(s:Bool)(m:Nat)(e low mode:Int):Int:=if low≤e∨m=0 then e else oE (roM s m e low mode) low
end Go.Ab
namespace Go.Ab
open Go Go.Proofs
end Go.Ab
namespace Go.Ab
open Go Go.Proofs
theorem ajd(xs:List Int)(hl:xs.length≤2^40):Con Tryz.prog 212 true [.ag [.sl xs.length (qb xs)]] [] (isA (.v (.bool (Ye xs)))):=by
 refine Con.of_aw Tryz.func212 rfl Tryz.ntmps212 (by simp) (by simp) (by simp) (W.sound ?_)
 show @W Tryz.prog 44 ⟨_⟩ ⟨fun x σ=>@q7 _ _ _ ⟨_⟩ _ ⟨_⟩ x σ⟩ _ _
 simp(disch:=omega)only[go_sem]
 refine qe (fun h1=>?_) (fun h1=>?_)
 ·simp(disch:=omega)only[go_sem,h1]
  refine qz (by simp(disch:=omega)only[go_sem]) (by simp(disch:=omega)only[go_sem]) ⟨?_,rfl,rfl⟩
  have:¬(xs.length≤100):=by omega
  simp[zh,Ye,this]
 ·simp(disch:=omega)only[go_sem,h1]
  refine qj (fun i:Nat=>[(1,.pt 30000000 0),(2,.v (.bool false)),(3,.v (.int .i64 i))]) (fun _=>[(30000000,.own 0 [.sl xs.length (qb xs)])]) (fun i=>i≤xs.length∧∀x∈xs.take i,0≤x∧x≤65535) (fun i=>xs.length-i) 0 ⟨by omega,by simp⟩
   (Le.lst [] _ _ rfl (by simp(disch:=omega)only[go_sem]) (by simp(disch:=omega)only[go_sem])) ?_
  rintro i ⟨hi,hx⟩
  simp(disch:=omega)only[go_sem]
  refine qe (fun h2=>?_) (fun h2=>?_)
  ·simp(disch:=omega)only[go_sem,h2]
   have hmem:xs.getD i 0∈xs:=by
    rw[List.getD_eq_getElem?_getD,List.getElem?_eq_getElem (by omega)];exact List.getElem_mem _
   have bad:¬(0≤xs.getD i 0∧xs.getD i 0≤65535)→Ye xs=false:=by
    intro hc
    unfold Ye
    have:xs.all (fun x=>decide (0≤x)&&decide (x≤65535))=false:=by
     rw[List.all_eq_false]
     refine⟨_,hmem,?_⟩
     simp only[Bool.and_eq_true,decide_eq_true_eq];exact hc
    rw[this];simp
   refine⟨by omega,by omega,?_⟩
   refine zA (fun h3=>?_) (fun h3=>?_)
   ·simp(disch:=omega)only[go_sem,h3]
    refine⟨by omega,by omega,?_⟩
    refine qe (fun h4=>?_) (fun h4=>?_)
    ·simp(disch:=omega)only[go_sem,h4]
     rw[bad (by omega)]
     exact qx
    ·simp(disch:=omega)only[go_sem,h4]
     refine qc (i+1) [] ⟨by omega,?_⟩ (by show xs.length-(i+1)<xs.length-i;omega) rfl (by simp(disch:=omega)only[go_sem];try omega) (by simp(disch:=omega)only[go_sem])
     intro x hxx
     rw[List.take_add_one]at hxx
     rcases List.mem_append.1 hxx with h|h
     ·exact hx x h
     ·rw[List.getElem?_eq_getElem (by omega)]at h
      simp at h
      rw[List.getD_eq_getElem?_getD,List.getElem?_eq_getElem (by omega)]at h3 h4
      simp at h3 h4
      subst h
      omega
   ·simp(disch:=omega)only[go_sem,h3]
    rw[bad (by omega)]
    exact qx
  ·have:i=xs.length:=by omega
   subst this
   rw[List.take_length]at hx
   have hall:xs.all (fun x=>decide (0≤x)&&decide (x≤65535))=true:=by
    rw[List.all_eq_true]
    intro x h;have:=hx x h;simp only[Bool.and_eq_true,decide_eq_true_eq];exact this
   have e1:decide (xs.length≤100)=true:=by simp;omega
   simp(disch:=omega)only[go_sem,h2]
   refine zA (fun h3=>?_) (fun h3=>?_)
   ·have en:((xs.length:Int)-1).toNat=xs.length-1:=by omega
    have hmem:xs.getD (xs.length-1) 0∈xs:=by
     rw[List.getD_eq_getElem?_getD,List.getElem?_eq_getElem (by omega)];exact List.getElem_mem _
    have hp:=hx _ hmem
    simp(disch:=omega)only[go_sem,h3,en]
    refine⟨by omega,by omega,?_⟩
    refine qz (by simp(disch:=omega)only[go_sem]) (by simp(disch:=omega)only[go_sem]) ⟨?_,rfl,rfl⟩
    have e2:decide (xs.length=0)=false:=by simp;intro h;subst h;simp at h3
    show AV.v (.bool _)=AV.v (.bool _)
    unfold Ye
    rw[e1,hall,e2,Bool.false_or,Bool.true_and,Bool.true_and]
    congr 2
    rw[decide_eq_decide]
    omega
   ·simp(disch:=omega)only[go_sem,h3]
    refine qz (by simp(disch:=omega)only[go_sem]) (by simp(disch:=omega)only[go_sem]) ⟨?_,rfl,rfl⟩
    have e2:decide (xs.length=0)=true:=by simp;exact List.length_eq_zero_iff.1 (by omega)
    show AV.v (.bool _)=AV.v (.bool _)
    unfold Ye
    rw[e1,hall,e2]
    simp
theorem QP(s:Bool)(xs:List Int)(hl:xs.length≤2^40):Con Tryz.prog 137 true [.ag [.v (.bool s),.sl xs.length (qb xs)]] [] (isA (.v (.bool (zH s xs)))):=by
 refine Con.of_aw Tryz.func137 rfl Tryz.ntmps137 (by simp) (by simp) (by simp) (W.sound ?_)
 show @W Tryz.prog 18 ⟨_⟩ ⟨fun x σ=>@q7 _ _ _ ⟨_⟩ _ ⟨_⟩ x σ⟩ _ _
 simp(disch:=omega)only[go_sem]
 refine ql (ajd xs hl) ?_
 simp(disch:=omega)only[go_sem]
 refine yP (fun h1=>?_) (fun h1=>?_)
 ·simp(disch:=omega)only[go_sem,h1]
  cases s
  ·simp(disch:=omega)only[go_sem]
   refine qz (by simp(disch:=omega)only[go_sem]) (by simp(disch:=omega)only[go_sem]) ⟨?_,rfl,rfl⟩
   simp[zh,zH,h1]
  ·simp(disch:=omega)only[go_sem]
   refine qz (by simp(disch:=omega)only[go_sem]) (by simp(disch:=omega)only[go_sem]) ⟨?_,rfl,rfl⟩
   show AV.v (.bool _)=AV.v (.bool _)
   unfold zH
   rw[h1,Bool.true_and,Bool.true_and,←decide_not]
   congr 2
   rw[decide_eq_decide]
   omega
 ·simp(disch:=omega)only[go_sem,h1]
  refine qz (by simp(disch:=omega)only[go_sem]) (by simp(disch:=omega)only[go_sem]) ⟨?_,rfl,rfl⟩
  simp[zh,zH,h1]
theorem jc(s:Bool)(xs:List Int)(e:Int)(hl:xs.length≤2^40):Con Tryz.prog 59 true [.ag [.v (.bool s),.sl xs.length (qb xs),.v (.int .i64 e)]] [] (isA (.v (.bool (dyB s xs e)))):=by
 refine Con.of_aw Tryz.func59 rfl Tryz.ntmps59 (by simp) (by simp) (by simp) (W.sound ?_)
 show @W Tryz.prog 31 ⟨_⟩ ⟨fun x σ=>@q7 _ _ _ ⟨_⟩ _ ⟨_⟩ x σ⟩ _ _
 simp(disch:=omega)only[go_sem]
 refine ql (QP s xs hl) ?_
 simp(disch:=omega)only[go_sem]
 refine yP (fun hw=>?_) (fun hw=>?_)
 ·have h1:=hw
  simp only[zH,Bool.and_eq_true]at h1
  obtain⟨hx,hll⟩:=Za h1.1
  have hxs:xs=lim (vl xs).toNat:=hx
  generalize hm:(vl xs).toNat=m at*
  subst hx
  simp(disch:=omega)only[go_sem,hw]
  refine zA (fun h2=>?_) (fun h2=>?_)
  ·simp(disch:=omega)only[go_sem,h2]
   refine qe (fun h3=>?_) (fun h3=>?_)
   ·simp(disch:=omega)only[go_sem,h3]
    refine qz (by simp(disch:=omega)only[go_sem]) (by simp(disch:=omega)only[go_sem]) ⟨?_,rfl,rfl⟩
    have a2:¬e≤3000:=by omega
    simp[zh,dyB,a2]
   ·simp(disch:=omega)only[go_sem,h3]
    refine qe (fun h4=>?_) (fun h4=>?_)
    ·simp(disch:=omega)only[go_sem,h4]
     have h0:m=0:=qF.1 (List.length_eq_zero_iff.1 (by omega))
     refine qz (by simp(disch:=omega)only[go_sem]) (by simp(disch:=omega)only[go_sem]) ⟨?_,rfl,rfl⟩
     have a1: -3000≤e:=by omega
     have a2:e≤3000:=by omega
     have a3:(lim m).length=0:=by omega
     show AV.v (.bool _)=AV.v (.bool _)
     unfold dyB
     rw[hw,hm,decide_eq_true a1,decide_eq_true a2,decide_eq_true a3,h0]
     simp
    ·simp(disch:=omega)only[go_sem,h4]
     refine ql (K5 m 0 (by omega) (by omega) (by omega)) ?_
     simp(disch:=omega)only[go_sem]
     refine qz (by simp(disch:=omega)only[go_sem]) (by simp(disch:=omega)only[go_sem]) ⟨?_,rfl,rfl⟩
     have a1: -3000≤e:=by omega
     have a2:e≤3000:=by omega
     have a3:¬(lim m).length=0:=by omega
     show AV.v (.bool _)=AV.v (.bool _)
     unfold dyB
     rw[hw,hm,decide_eq_true a1,decide_eq_true a2,decide_eq_false a3]
     simp
     omega
  ·simp(disch:=omega)only[go_sem,h2]
   refine qz (by simp(disch:=omega)only[go_sem]) (by simp(disch:=omega)only[go_sem]) ⟨?_,rfl,rfl⟩
   have a1:¬ -3000≤e:=by omega
   simp[zh,dyB,a1]
 ·simp(disch:=omega)only[go_sem,hw]
  refine qz (by simp(disch:=omega)only[go_sem]) (by simp(disch:=omega)only[go_sem]) ⟨?_,rfl,rfl⟩
  simp[zh,dyB,hw]
end Go.Ab
namespace Go.Ab
open Go Go.Proofs
theorem ZU(s:Bool)(m:Nat)(e:Int):dyB (oS s m) (lim (oM m)) (oE m e)=zO m e:=by
 unfold dyB zH zO jL
 rw[qZ,Int.toNat_natCast]
 have hod:=aOr m
 have hz:=bdm s m
 by_cases h:(lim (oM m)).length≤100
 ·rw[aoD _ h,decide_eq_true h,Bool.true_and,Bool.true_and]
  by_cases h0:oM m=0
  ·have hm:m=0:=yp.1 h0
   rw[hz h0,h0,hm]
   simp[oE,qm]
  ·have h1:oM m % 2=1:=hod.resolve_right h0
   have h2:decide ((lim (oM m)).length=0)=false:=by
    have:=y8 h0
    exact decide_eq_false (by omega)
   rw[h2,decide_eq_true h1]
   simp
 ·rw[decide_eq_false h]
  have:Ye (lim (oM m))=false:=by unfold Ye;rw[decide_eq_false h,Bool.false_and]
  rw[this];simp
theorem QG(s:Bool)(m:Nat)(e:Int)(hl:(lim (oM m)).length≤2^40):Con Tryz.prog 139 false [.ag [.v (.bool (oS s m)),.sl (lim (oM m)).length (qb (lim (oM m))),.v (.int .i64 (oE m e))]] [] (isA (if zO m e=true then .tu [.ag [.v (.bool (oS s m)),.sl (lim (oM m)).length (qb (lim (oM m))),.v (.int .i64 (oE m e))],.v (.bool true)]else .tu [.ag [.v (.bool (false)),.sl (lim (0)).length (qb (lim (0))),.v (.int .i64 (0))],.v (.bool false)])):=by
 refine Con.frzA ?_
 have ck:=jc (oS s m) (lim (oM m)) (oE m e) hl
 rw[ZU]at ck
 cases hd:zO m e
 ·rw[hd]at ck
  rw[if_neg (by simp),qm]
  refine Con.of_w (rs:=[.cell 2 29,.tmp 3]) Tryz.func139 rfl Tryz.ntmps139 rfl ?_
  simp(disch:=omega)only[go_sem]
  refine ql (ck) ?_
  simp(disch:=omega)only[go_sem]
  exact qi
 ·rw[hd]at ck
  rw[if_pos rfl]
  refine Con.of_w (rs:=[.cell 2 29,.tmp 3]) Tryz.func139 rfl Tryz.ntmps139 rfl ?_
  simp(disch:=omega)only[go_sem]
  refine ql (ck) ?_
  simp(disch:=omega)only[go_sem]
  exact qi
theorem ajz(s1:Bool)(m1:Nat)(e1:Int)(s2:Bool)(m2:Nat)(e2:Int)(h1:dyB s1 (lim m1) e1=true)(h2:dyB s2 (lim m2) e2=true):
  Con Tryz.prog 71 false [.ag [.v (.bool (s1)),.sl (lim (m1)).length (qb (lim (m1))),.v (.int .i64 (e1))],.ag [.v (.bool (s2)),.sl (lim (m2)).length (qb (lim (m2))),.v (.int .i64 (e2))]] [] (isA (if zO (adM s1 m1 e1 s2 m2 e2) (alE m1 e1 m2 e2)=true then .tu [.ag [.v (.bool (oS (adS s1 m1 e1 s2 m2 e2) (adM s1 m1 e1 s2 m2 e2))),.sl (lim (oM (adM s1 m1 e1 s2 m2 e2))).length (qb (lim (oM (adM s1 m1 e1 s2 m2 e2)))),.v (.int .i64 (oE (adM s1 m1 e1 s2 m2 e2) (alE m1 e1 m2 e2)))],.v (.bool true)]else .tu [.ag [.v (.bool (false)),.sl (lim (0)).length (qb (lim (0))),.v (.int .i64 (0))],.v (.bool false)])):=by
 refine Con.frzA ?_
 obtain⟨n1,q1,b1,c1,d1,_,f1⟩:=jF h1
 obtain⟨n2,q2,b2,c2,d2,_,f2⟩:=jF h2
 obtain rfl:=je q1
 obtain rfl:=je q2
 have hE:=yG (m1:=m1) (m2:=m2) d1.1 d2.1
 have b1':=yF (e:=e1) (E:=alE m1 e1 m2 e2) (C:=6000) c1 (by omega)
 have b2':=yF (e:=e2) (E:=alE m1 e1 m2 e2) (C:=6000) c2 (by omega)
 have hM:bl (adM s1 m1 e1 s2 m2 e2)≤7601:=aan b1' b2'
 have hl:=qB (Nat.le_trans (ju (aot _)) hM)
 have cf:=QG (adS s1 m1 e1 s2 m2 e2) (adM s1 m1 e1 s2 m2 e2) (alE m1 e1 m2 e2) (by omega)
 have ca:=apZ s1 m1 e1 s2 m2 e2 (by omega) (by omega) (by omega) (by omega) f1 f2
 have k1:=jc s1 (lim m1) e1 (by omega)
 have k2:=jc s2 (lim m2) e2 (by omega)
 rw[h1]at k1
 rw[h2]at k2
 cases hd:zO (adM s1 m1 e1 s2 m2 e2) (alE m1 e1 m2 e2)
 ·rw[hd,if_neg (by simp),qm]at cf
  rw[if_neg (by simp),qm]
  refine Con.of_w (rs:=[.cell 4 29,.tmp 5]) Tryz.func71 rfl Tryz.ntmps71 rfl ?_
  simp(disch:=omega)only[go_sem]
  refine ql (k1) ?_
  simp(disch:=omega)only[go_sem]
  refine ql (k2) ?_
  simp(disch:=omega)only[go_sem]
  refine qa (ca) ?_
  simp(disch:=omega)only[go_sem]
  refine qa (cf) ?_
  simp(disch:=omega)only[go_sem]
  exact qi
 ·rw[hd,if_pos rfl]at cf
  rw[if_pos rfl]
  refine Con.of_w (rs:=[.cell 4 29,.tmp 5]) Tryz.func71 rfl Tryz.ntmps71 rfl ?_
  simp(disch:=omega)only[go_sem]
  refine ql (k1) ?_
  simp(disch:=omega)only[go_sem]
  refine ql (k2) ?_
  simp(disch:=omega)only[go_sem]
  refine qa (ca) ?_
  simp(disch:=omega)only[go_sem]
  refine qa (cf) ?_
  simp(disch:=omega)only[go_sem]
  exact qi
def pmS(s1:Bool)(m1:Nat)(s2:Bool)(m2:Nat):Bool:=(s1 != s2)&&decide (m1*m2≠0)
theorem ajy(s1:Bool)(m1:Nat)(e1:Int)(s2:Bool)(m2:Nat)(e2:Int)(h1:dyB s1 (lim m1) e1=true)(h2:dyB s2 (lim m2) e2=true):
  Con Tryz.prog 60 false [.ag [.v (.bool (s1)),.sl (lim (m1)).length (qb (lim (m1))),.v (.int .i64 (e1))],.ag [.v (.bool (s2)),.sl (lim (m2)).length (qb (lim (m2))),.v (.int .i64 (e2))]] [] (isA (if zO (m1*m2) (e1+e2)=true then .tu [.ag [.v (.bool (oS (pmS s1 m1 s2 m2) (m1*m2))),.sl (lim (oM (m1*m2))).length (qb (lim (oM (m1*m2)))),.v (.int .i64 (oE (m1*m2) (e1+e2)))],.v (.bool true)]else .tu [.ag [.v (.bool (false)),.sl (lim (0)).length (qb (lim (0))),.v (.int .i64 (0))],.v (.bool false)])):=by
 refine Con.frzA ?_
 obtain⟨n1,q1,b1,c1,d1,_,f1⟩:=jF h1
 obtain⟨n2,q2,b2,c2,d2,_,f2⟩:=jF h2
 obtain rfl:=je q1
 obtain rfl:=je q2
 have hM:=Nat.le_trans (yy m1 m2) (Nat.add_le_add c1 c2)
 have hl:=qB (Nat.le_trans (ju (aot _)) hM)
 have cf:=QG (pmS s1 m1 s2 m2) (m1*m2) (e1+e2) (by omega)
 have ca:=apX s1 m1 e1 s2 m2 e2 (by omega) (by omega) (by omega) (by omega)
 have k1:=jc s1 (lim m1) e1 (by omega)
 have k2:=jc s2 (lim m2) e2 (by omega)
 rw[h1]at k1
 rw[h2]at k2
 unfold pmS at*
 cases hd:zO (m1*m2) (e1+e2)
 ·rw[hd,if_neg (by simp),qm]at cf
  rw[if_neg (by simp),qm]
  refine Con.of_w (rs:=[.cell 4 29,.tmp 5]) Tryz.func60 rfl Tryz.ntmps60 rfl ?_
  simp(disch:=omega)only[go_sem]
  refine ql (k1) ?_
  simp(disch:=omega)only[go_sem]
  refine ql (k2) ?_
  simp(disch:=omega)only[go_sem]
  refine qa (ca) ?_
  simp(disch:=omega)only[go_sem]
  refine qa (cf) ?_
  simp(disch:=omega)only[go_sem]
  exact qi
 ·rw[hd,if_pos rfl]at cf
  rw[if_pos rfl]
  refine Con.of_w (rs:=[.cell 4 29,.tmp 5]) Tryz.func60 rfl Tryz.ntmps60 rfl ?_
  simp(disch:=omega)only[go_sem]
  refine ql (k1) ?_
  simp(disch:=omega)only[go_sem]
  refine ql (k2) ?_
  simp(disch:=omega)only[go_sem]
  refine qa (ca) ?_
  simp(disch:=omega)only[go_sem]
  refine qa (cf) ?_
  simp(disch:=omega)only[go_sem]
  exact qi
theorem ajh(s1:Bool)(m1:Nat)(e1:Int)(s2:Bool)(m2:Nat)(e2:Int)(ok:Bool)(h1:dyB s1 (lim m1) e1=true)(h2:dyB s2 (lim m2) e2=true):
  Con Tryz.prog 16 false [.ag [.v (.bool (s1)),.sl (lim (m1)).length (qb (lim (m1))),.v (.int .i64 (e1))],.ag [.v (.bool (s2)),.sl (lim (m2)).length (qb (lim (m2))),.v (.int .i64 (e2))],.v (.bool ok)] [] (isA (if zO (adM s1 m1 e1 s2 m2 e2) (alE m1 e1 m2 e2)=true then .tu [.ag [.v (.bool (oS (adS s1 m1 e1 s2 m2 e2) (adM s1 m1 e1 s2 m2 e2))),.sl (lim (oM (adM s1 m1 e1 s2 m2 e2))).length (qb (lim (oM (adM s1 m1 e1 s2 m2 e2)))),.v (.int .i64 (oE (adM s1 m1 e1 s2 m2 e2) (alE m1 e1 m2 e2)))],.v (.bool ok)]else .tu [.ag [.v (.bool (false)),.sl (lim (0)).length (qb (lim (0))),.v (.int .i64 (0))],.v (.bool false)])):=by
 refine Con.frzA ?_
 have cf:=ajz s1 m1 e1 s2 m2 e2 h1 h2
 cases hd:zO (adM s1 m1 e1 s2 m2 e2) (alE m1 e1 m2 e2)
 ·rw[hd,if_neg (by simp),qm]at cf
  rw[if_neg (by simp),qm]
  cases ok
  ·refine Con.of_w (rs:=[.cell 6 29,.tmp 7]) Tryz.func16 rfl Tryz.ntmps16 rfl ?_
   simp(disch:=omega)only[go_sem]
   refine qa (cf) ?_
   simp(disch:=omega)only[go_sem]
   exact qi
  ·refine Con.of_w (rs:=[.cell 6 29,.tmp 7]) Tryz.func16 rfl Tryz.ntmps16 rfl ?_
   simp(disch:=omega)only[go_sem]
   refine qa (cf) ?_
   simp(disch:=omega)only[go_sem]
   exact qi
 ·rw[hd,if_pos rfl]at cf
  rw[if_pos rfl]
  cases ok
  ·refine Con.of_w (rs:=[.cell 6 29,.tmp 7]) Tryz.func16 rfl Tryz.ntmps16 rfl ?_
   simp(disch:=omega)only[go_sem]
   refine qa (cf) ?_
   simp(disch:=omega)only[go_sem]
   exact qi
  ·refine Con.of_w (rs:=[.cell 6 29,.tmp 7]) Tryz.func16 rfl Tryz.ntmps16 rfl ?_
   simp(disch:=omega)only[go_sem]
   refine qa (cf) ?_
   simp(disch:=omega)only[go_sem]
   exact qi
theorem ajg(s1:Bool)(m1:Nat)(e1:Int)(s2:Bool)(m2:Nat)(e2:Int)(ok:Bool)(h1:dyB s1 (lim m1) e1=true)(h2:dyB s2 (lim m2) e2=true):
  Con Tryz.prog 15 false [.ag [.v (.bool (s1)),.sl (lim (m1)).length (qb (lim (m1))),.v (.int .i64 (e1))],.ag [.v (.bool (s2)),.sl (lim (m2)).length (qb (lim (m2))),.v (.int .i64 (e2))],.v (.bool ok)] [] (isA (if zO (m1*m2) (e1+e2)=true then .tu [.ag [.v (.bool (oS (pmS s1 m1 s2 m2) (m1*m2))),.sl (lim (oM (m1*m2))).length (qb (lim (oM (m1*m2)))),.v (.int .i64 (oE (m1*m2) (e1+e2)))],.v (.bool ok)]else .tu [.ag [.v (.bool (false)),.sl (lim (0)).length (qb (lim (0))),.v (.int .i64 (0))],.v (.bool false)])):=by
 refine Con.frzA ?_
 have cf:=ajy s1 m1 e1 s2 m2 e2 h1 h2
 cases hd:zO (m1*m2) (e1+e2)
 ·rw[hd,if_neg (by simp),qm]at cf
  rw[if_neg (by simp),qm]
  cases ok
  ·refine Con.of_w (rs:=[.cell 6 29,.tmp 7]) Tryz.func15 rfl Tryz.ntmps15 rfl ?_
   simp(disch:=omega)only[go_sem]
   refine qa (cf) ?_
   simp(disch:=omega)only[go_sem]
   exact qi
  ·refine Con.of_w (rs:=[.cell 6 29,.tmp 7]) Tryz.func15 rfl Tryz.ntmps15 rfl ?_
   simp(disch:=omega)only[go_sem]
   refine qa (cf) ?_
   simp(disch:=omega)only[go_sem]
   exact qi
 ·rw[hd,if_pos rfl]at cf
  rw[if_pos rfl]
  cases ok
  ·refine Con.of_w (rs:=[.cell 6 29,.tmp 7]) Tryz.func15 rfl Tryz.ntmps15 rfl ?_
   simp(disch:=omega)only[go_sem]
   refine qa (cf) ?_
   simp(disch:=omega)only[go_sem]
   exact qi
  ·refine Con.of_w (rs:=[.cell 6 29,.tmp 7]) Tryz.func15 rfl Tryz.ntmps15 rfl ?_
   simp(disch:=omega)only[go_sem]
   refine qa (cf) ?_
   simp(disch:=omega)only[go_sem]
   exact qi
end Go.Ab
namespace Go.Ab
open Go Go.Proofs
theorem ap2(s1:Bool)(m1:Nat)(s2:Bool)(m2:Nat)(l1:(lim m1).length≤2^40)(l2:(lim m2).length≤2^40)(z1:m1=0→s1=false)(z2:m2=0→s2=false):
  Con Tryz.prog 158 true [.ag [.v (.bool (s1)),.sl (lim (m1)).length (qb (lim (m1)))],.ag [.v (.bool (s2)),.sl (lim (m2)).length (qb (lim (m2)))]] [] (isA (.v (.int .i64 (zy (sv s1 m1) (sv s2 m2))))):=by
 rw[aaj z1 z2]
 cases s1<;>cases s2
 ·refine Con.of_w (rs:=[.tmp 4]) Tryz.func158 rfl Tryz.ntmps158 rfl ?_
  simp(disch:=omega)only[go_sem]
  refine ql (Z1 m1 m2 l1 l2) ?_
  simp(disch:=omega)only[go_sem]
  exact qx
 ·refine Con.of_w (rs:=[.tmp 4]) Tryz.func158 rfl Tryz.ntmps158 rfl ?_
  simp(disch:=omega)only[go_sem]
  exact qx
 ·refine Con.of_w (rs:=[.tmp 4]) Tryz.func158 rfl Tryz.ntmps158 rfl ?_
  simp(disch:=omega)only[go_sem]
  exact qx
 ·refine Con.of_w (rs:=[.tmp 4]) Tryz.func158 rfl Tryz.ntmps158 rfl ?_
  simp(disch:=omega)only[go_sem]
  refine ql (Z1 m2 m1 l2 l1) ?_
  simp(disch:=omega)only[go_sem]
  exact qx
theorem apY(K:Nat)(s1:Bool)(m1:Nat)(e1:Int)(s2:Bool)(m2:Nat)(e2:Int)(h1:bl m1≤4000000)(h2:bl m2≤4000000)(he1: -1000000≤e1∧e1≤1000000)(he2: -1000000≤e2∧e2≤1000000)(k1: -(K:Int)≤e1)(k2: -(K:Int)≤e2)(z1:m1=0→s1=false)(z2:m2=0→s2=false):
  Con Tryz.prog 74 true [.ag [.v (.bool (s1)),.sl (lim (m1)).length (qb (lim (m1))),.v (.int .i64 (e1))],.ag [.v (.bool (s2)),.sl (lim (m2)).length (qb (lim (m2))),.v (.int .i64 (e2))]] [] (isA (.v (.int .i64 (zy (dv K s1 m1 e1) (dv K s2 m2 e2))))):=by
 have hE:=yG (m1:=m1) (m2:=m2) he1.1 he2.1
 have b1:=qB (yF (e:=e1) (E:=alE m1 e1 m2 e2) (C:=2000000) h1 (by omega))
 have b2:=qB (yF (e:=e2) (E:=alE m1 e1 m2 e2) (C:=2000000) h2 (by omega))
 rw[←aeO k1 k2]
 have y1:alA m1 e1 (alE m1 e1 m2 e2)=0→s1=false:=fun h=>z1 (Qj.1 h)
 have y2:alA m2 e2 (alE m1 e1 m2 e2)=0→s2=false:=fun h=>z2 (Qj.1 h)
 refine Con.of_w (rs:=[.tmp 4]) Tryz.func74 rfl Tryz.ntmps74 rfl ?_
 simp(disch:=omega)only[go_sem]
 refine qa (ZY s1 m1 e1 s2 m2 e2 h1 h2 he1 he2 z1 z2) ?_
 simp(disch:=omega)only[go_sem]
 refine ql (ap2 s1 (alA m1 e1 (alE m1 e1 m2 e2)) s2 (alA m2 e2 (alE m1 e1 m2 e2)) (by omega) (by omega) y1 y2) ?_
 simp(disch:=omega)only[go_sem]
 exact qx
theorem JV(s1:Bool)(m1:Nat)(e1:Int)(s2:Bool)(m2:Nat)(e2:Int)(h1:dyB s1 (lim m1) e1=true)(h2:dyB s2 (lim m2) e2=true):
  Con Tryz.prog 18 true [.ag [.v (.bool (s1)),.sl (lim (m1)).length (qb (lim (m1))),.v (.int .i64 (e1))],.ag [.v (.bool (s2)),.sl (lim (m2)).length (qb (lim (m2))),.v (.int .i64 (e2))]] [] (isA (.v (.int .i64 (zy (dv 3000 s1 m1 e1) (dv 3000 s2 m2 e2))))):=by
 obtain⟨n1,q1,b1,c1,d1,_,f1⟩:=jF h1
 obtain⟨n2,q2,b2,c2,d2,_,f2⟩:=jF h2
 obtain rfl:=je q1
 obtain rfl:=je q2
 have k1:=jc s1 (lim m1) e1 (by omega)
 have k2:=jc s2 (lim m2) e2 (by omega)
 rw[h1]at k1
 rw[h2]at k2
 refine Con.of_w (rs:=[.tmp 4]) Tryz.func18 rfl Tryz.ntmps18 rfl ?_
 simp(disch:=omega)only[go_sem]
 refine ql (k1) ?_
 simp(disch:=omega)only[go_sem]
 refine ql (k2) ?_
 simp(disch:=omega)only[go_sem]
 refine ql (apY 3000 s1 m1 e1 s2 m2 e2 (by omega) (by omega) (by omega) (by omega) (by omega) (by omega) f1 f2) ?_
 simp(disch:=omega)only[go_sem]
 exact qx
theorem aMp(s:Bool)(m:Nat)(e:Int)(h:dyB s (lim m) e=true):Con Tryz.prog 121 false [.ag [.v (.bool (s)),.sl (lim (m)).length (qb (lim (m))),.v (.int .i64 (e))]] [] (isA (.ag [.v (.bool ((!s)&&decide (m≠0))),.sl (lim (m)).length (qb (lim (m))),.v (.int .i64 (e))])):=by
 refine Con.frzA ?_
 obtain⟨n1,q1,b1,c1,d1,_,f1⟩:=jF h
 obtain rfl:=je q1
 have k1:=jc s (lim m) e (by omega)
 rw[h]at k1
 refine Con.of_w (rs:=[.cell 2 29]) Tryz.func121 rfl Tryz.ntmps121 rfl ?_
 simp(disch:=omega)only[go_sem]
 refine ql (k1) ?_
 simp(disch:=omega)only[go_sem]
 refine qa (apW s m e (by omega)) ?_
 simp(disch:=omega)only[go_sem]
 exact qi
theorem QS(n:Int)(h: -9223372036854775808≤n∧n<9223372036854775808):Con Tryz.prog 73 false [.v (.int .i64 n)] [] (isA (.ag [.v (.bool (decide (n<0))),.sl (lim (n.natAbs)).length (qb (lim (n.natAbs)))])):=by
 refine Con.frzA ?_
 refine Con.of_w (rs:=[.cell 2 27]) Tryz.func73 rfl Tryz.ntmps73 rfl ?_
 simp(disch:=omega)only[go_sem]
 refine qa (YG n h) ?_
 simp(disch:=omega)only[go_sem]
 exact qi
theorem aLk(e:Int):Con Tryz.prog 155 true [.v (.int .i64 e)] [] (isA (.v (.bool (decide (-12000≤e)&&decide (e≤12000))))):=by
 refine Con.of_aw Tryz.func155 rfl Tryz.ntmps155 (by simp) (by simp) (by simp) (W.sound ?_)
 show @W Tryz.prog 9 ⟨_⟩ ⟨fun x σ=>@q7 _ _ _ ⟨_⟩ _ ⟨_⟩ x σ⟩ _ _
 simp(disch:=omega)only[go_sem]
 repeat' first
  |simp(disch:=omega)only[go_sem, *]
  |(with_reducible refine qe (fun _=>?_) (fun _=>?_))
  |(with_reducible refine zA (fun _=>?_) (fun _=>?_))
  |(with_reducible refine aey (fun _=>?_) (fun _=>?_))
  |(with_reducible refine yP (fun _=>?_) (fun _=>?_))
 all_goals exact qz (by simp(disch:=omega)only[go_sem]) (by simp(disch:=omega)only[go_sem]) ⟨by simp_all[zh]<;>omega,rfl,rfl⟩
theorem aah(s:Bool)(m:Nat)(e:Int)(h:zH s (lim m)=true)(he: -12000≤e∧e≤12000):
  Con Tryz.prog 72 false [.ag [.v (.bool (s)),.sl (lim (m)).length (qb (lim (m)))],.v (.int .i64 e)] [] (isA (if zO m e=true then .tu [.ag [.v (.bool (oS s m)),.sl (lim (oM m)).length (qb (lim (oM m))),.v (.int .i64 (oE m e))],.v (.bool true)]else .tu [.ag [.v (.bool (false)),.sl (lim (0)).length (qb (lim (0))),.v (.int .i64 (0))],.v (.bool false)])):=by
 refine Con.frzA ?_
 have h':=h
 simp only[zH,Bool.and_eq_true]at h'
 obtain⟨_,hl⟩:=Za h'.1
 have hb:=aao (m:=m)
 have hb2:=qB (Nat.le_trans (ju (aot m)) hb)
 have k1:=QP s (lim m) (by omega)
 rw[h]at k1
 have k2:=aLk e
 rw[decide_eq_true he.1,decide_eq_true he.2]at k2
 have cf:=QG s m e (by omega)
 cases hd:zO m e
 ·rw[hd,if_neg (by simp),qm]at cf
  rw[if_neg (by simp),qm]
  refine Con.of_w (rs:=[.cell 4 29,.tmp 5]) Tryz.func72 rfl Tryz.ntmps72 rfl ?_
  simp(disch:=omega)only[go_sem]
  refine ql (k1) ?_
  simp(disch:=omega)only[go_sem]
  refine ql (k2) ?_
  simp(disch:=omega)only[go_sem]
  refine qa (jP s m e (by omega) (by omega)) ?_
  simp(disch:=omega)only[go_sem]
  refine qa (cf) ?_
  simp(disch:=omega)only[go_sem]
  exact qi
 ·rw[hd,if_pos rfl]at cf
  rw[if_pos rfl]
  refine Con.of_w (rs:=[.cell 4 29,.tmp 5]) Tryz.func72 rfl Tryz.ntmps72 rfl ?_
  simp(disch:=omega)only[go_sem]
  refine ql (k1) ?_
  simp(disch:=omega)only[go_sem]
  refine ql (k2) ?_
  simp(disch:=omega)only[go_sem]
  refine qa (jP s m e (by omega) (by omega)) ?_
  simp(disch:=omega)only[go_sem]
  refine qa (cf) ?_
  simp(disch:=omega)only[go_sem]
  exact qi
theorem aaw:tz 1=0:=aee rfl
theorem yO:lim 1=[1]:=by rw[jY (by omega)];simp[qm]
/-! ### Sameness-/
theorem adE(a b:Nat)(la:(lim a).length≤2^40)(lb:(lim b).length≤2^40):Con Tryz.prog 146 true [.ag [.sl (lim (a)).length (qb (lim (a)))],.ag [.sl (lim (b)).length (qb (lim (b)))]] [] (isA (.v (.bool (decide (a=b))))):=by
 refine Con.of_w (rs:=[.tmp 4]) Tryz.func146 rfl Tryz.ntmps146 rfl ?_
 simp(disch:=omega)only[go_sem]
 refine zA (fun h1=>?_) (fun h1=>?_)
 ·simp(disch:=omega)only[go_sem,h1]
  rw[decide_eq_false (fun e=>h1 (by rw[e]))]
  exact qx
 ·have hl:(lim a).length=(lim b).length:=by omega
  simp(disch:=omega)only[go_sem,h1]
  refine qj (fun i:Nat=>[(2,.pt 40000000 0),(3,.pt 50000000 0),(5,.v (.int .i64 i))]) (fun _=>[(40000000,.own 0 [.sl (lim (a)).length (qb (lim (a)))]),(50000000,.own 0 [.sl (lim (b)).length (qb (lim (b)))])])
   (fun i=>i≤(lim a).length∧(lim a).take i=(lim b).take i) (fun i=>(lim a).length-i) 0 ⟨by omega,by simp⟩ (Le.lst [] _ _ rfl (by simp(disch:=omega)only[go_sem];try omega) (by simp(disch:=omega)only[go_sem])) ?_
  rintro i ⟨hi,ht⟩
  simp(disch:=omega)only[go_sem]
  refine qe (fun h2=>?_) (fun h2=>?_)
  ·simp(disch:=omega)only[go_sem,h2]
   refine qs rfl [⟨0,[],[]⟩,⟨1,[],[]⟩,⟨2,[1],[]⟩,⟨3,[],[]⟩,⟨4,[],[]⟩,⟨5,[1,4],[]⟩,⟨6,[1,4],[]⟩,⟨7,[1,4,6],[]⟩,⟨8,[1,4],[]⟩,⟨9,[1,4],[]⟩,⟨10,[],[]⟩] (by kernel_rfl) ?_
   simp(disch:=omega)only[go_sem]
   refine⟨by omega,by omega,by omega,by omega,?_⟩
   refine zA (fun h3=>?_) (fun h3=>?_)
   ·simp(disch:=omega)only[go_sem,h3]
    rw[decide_eq_false (fun e=>h3 (by rw[e]))]
    exact qx
   ·simp(disch:=omega)only[go_sem,h3]
    refine qc (i+1) [] ⟨by omega,?_⟩ (by show(lim a).length-(i+1)<(lim a).length-i;omega) rfl (by simp(disch:=omega)only[go_sem];try omega) (by simp(disch:=omega)only[go_sem])
    rw[jH (l:=lim a) (by omega),jH (l:=lim b) (by omega),ht,h3]
  ·simp(disch:=omega)only[go_sem,h2]
   have:i=(lim a).length:=by omega
   subst this
   have ht2:lim a=lim b:=by
    have h4:=List.take_of_length_le (l:=lim b) (i:=(lim a).length) (by omega)
    rw[List.take_length,h4]at ht
    exact ht
   rw[decide_eq_true (je ht2)]
   exact qx
theorem YC(s1:Bool)(m1:Nat)(s2:Bool)(m2:Nat)(l1:(lim m1).length≤2^40)(l2:(lim m2).length≤2^40):Con Tryz.prog 69 true [.ag [.v (.bool (s1)),.sl (lim (m1)).length (qb (lim (m1)))],.ag [.v (.bool (s2)),.sl (lim (m2)).length (qb (lim (m2)))]] [] (isA (.v (.bool ((s1==s2)&&decide (m1=m2))))):=by
 refine Con.of_w (rs:=[.tmp 4]) Tryz.func69 rfl Tryz.ntmps69 rfl ?_
 cases hs:(s1==s2)
 ·simp(disch:=omega)only[go_sem,hs]
  exact qx
 ·simp(disch:=omega)only[go_sem,hs]
  refine ql (adE m1 m2 l1 l2) ?_
  simp(disch:=omega)only[go_sem]
  exact qx
theorem JK(s1:Bool)(m1:Nat)(e1:Int)(s2:Bool)(m2:Nat)(e2:Int)(l1:(lim m1).length≤2^40)(l2:(lim m2).length≤2^40):Con Tryz.prog 13 true [.ag [.v (.bool (s1)),.sl (lim (m1)).length (qb (lim (m1))),.v (.int .i64 (e1))],.ag [.v (.bool (s2)),.sl (lim (m2)).length (qb (lim (m2))),.v (.int .i64 (e2))]] [] (isA (.v (.bool (decide (e1=e2)&&((s1==s2)&&decide (m1=m2)))))):=by
 cases he:decide (e1=e2)
 ·have he':¬e1=e2:=by simpa using he
  refine Con.of_w (rs:=[.tmp 4]) Tryz.func13 rfl Tryz.ntmps13 rfl ?_
  simp(disch:=omega)only[go_sem,he']
  exact qx
 ·refine Con.of_w (rs:=[.tmp 4]) Tryz.func13 rfl Tryz.ntmps13 rfl ?_
  simp(disch:=omega)only[go_sem,he]
  refine ql (YC s1 m1 s2 m2 l1 l2) ?_
  simp(disch:=omega)only[go_sem]
  exact qx
end Go.Ab
namespace Go.Ab
open Go Go.Proofs
theorem K9(e:Int)(he: -3000≤e∧e≤3000):Con Tryz.prog 17 false [.v (.int .i64 1),.v (.int .i64 e)] [] (isA (.ag [.v (.bool (false)),.sl (lim (1)).length (qb (lim (1))),.v (.int .i64 (e))])):=by
 refine Con.frzA ?_
 have hm:oM 1=1:=by unfold oM;rw[aaw]
 have hE:oE 1 e=e:=by unfold oE;rw[aaw,if_neg (by decide)];simp
 have hf:zO 1 e=true:=by
  unfold zO jL;rw[hm,hE,yO]
  simp only[Bool.and_eq_true,decide_eq_true_eq]
  exact⟨by decide,by omega,by omega⟩
 have c1:=aah false 1 e (by rw[yO];decide) (by omega)
 rw[if_pos hf,hm,hE]at c1
 have c0:=QS 1 (by omega)
 have e1:decide ((1:Int)<0)=false:=rfl
 have e2:(1:Int).natAbs=1:=rfl
 rw[e1,e2]at c0
 refine Con.of_aw Tryz.func17 rfl Tryz.ntmps17 (by simp) (by simp) (by simp) (W.sound ?_)
 show @W Tryz.prog 15 ⟨_⟩ ⟨fun x σ=>@q7 _ _ _ ⟨_⟩ _ ⟨_⟩ x σ⟩ _ _
 simp(disch:=omega)only[go_sem]
 refine qa (c0) ?_
 simp(disch:=omega)only[go_sem]
 refine qa (c1) ?_
 simp(disch:=omega)only[go_sem]
 refine qL (by simp(disch:=omega)only[go_sem]) ?_
 show qE _ 6 _=_
 rfl
theorem aEE:tz 1024=10:=Qn (a:=0) (by decide)
theorem aSY:(ExV.can ⟨false,1024, -10⟩)=⟨false,1,0⟩:=by
 show(⟨oS false 1024,oM 1024,oE 1024 (-10)⟩:ExV)=_
 unfold oS oM oE
 rw[aEE];rfl
theorem aqs:(ExV.can ⟨false,1, -14⟩)=⟨false,1, -14⟩:=by
 show(⟨oS false 1,oM 1,oE 1 (-14)⟩:ExV)=_
 unfold oS oM oE
 rw[aaw];rfl
theorem Yu(x:ExV)(a:Nat)(s:Bool)(e:Int)(h:x.can=⟨s,a,e⟩)(h1:(lim a).length≤100)(h2: -3000≤e∧e≤3000):x.fit=true:=by
 have e1:oM x.m=a:=congrArg ExV.m h
 have e2:oE x.m x.e=e:=congrArg ExV.e h
 unfold ExV.fit zO jL
 rw[e1,e2]
 simp only[Bool.and_eq_true,decide_eq_true_eq]
 exact⟨h1,h2⟩
theorem adY(n:Nat)(h1:n=1):Con Tryz.prog 70 false [.ag [.v (.int .i64 (n)),.sl ([ex0]).length (qp ExV.cs ([ex0]))],.v (.int .i64 (-10))] [] (isA (.tu [.ag [.v (.int .i64 (n)),.sl ([ex1]).length (qp ExV.cs ([ex1]))],.ag [.v (.bool (false)),.sl (lim (1)).length (qb (lim (1))),.v (.int .i64 (-14))],.v (.bool true)])):=by
 have c:=adX n [ex0] (-10) aEh (by omega) (by rw[h1];rfl) (by omega) (K7 n h1) (aqb n h1) (by rw[h1];decide+kernel) (by decide+kernel) (by
  rw[show aEh=[⟨⟨false,16383, -14⟩,⟨false,16385, -14⟩⟩] by decide+kernel,List.all_cons,List.all_nil]
  have t1:tz 16383=0:=aee rfl
  have t2:tz 16385=0:=aee rfl
  have f1:ExV.fit ⟨false,16383, -14⟩=true:=Yu _ 16383 false (-14) (by show(⟨oS false 16383,oM 16383,oE 16383 (-14)⟩:ExV)=_;unfold oS oM oE;rw[t1];rfl) (by have:=qB (m:=16383) (B:=20) (zx.2 (by decide));omega) (by omega)
  have f2:ExV.fit ⟨false,16385, -14⟩=true:=Yu _ 16385 false (-14) (by show(⟨oS false 16385,oM 16385,oE 16385 (-14)⟩:ExV)=_;unfold oS oM oE;rw[t2];rfl) (by have:=qB (m:=16385) (B:=20) (zx.2 (by decide));omega) (by omega)
  unfold SpV.fit
  rw[f1,f2];rfl)
 have eX:aeB n aEh (-10)=[⟨false,1024, -10⟩]:=by rw[h1];decide+kernel
 have eF:jN n aEh (-10)=⟨false,1, -14⟩:=by rw[h1];decide+kernel
 rw[eX,eF]at c
 have f1:ExV.fit ⟨false,1024, -10⟩=true:=Yu _ 1 false 0 aSY (by rw[yO];decide) (by omega)
 have f2:ExV.fit ⟨false,1, -14⟩=true:=Yu _ 1 false (-14) aqs (by rw[yO];decide) (by omega)
 rw[List.all_cons,List.all_nil,f1,f2,if_pos (by rfl),List.map_cons,List.map_nil,aSY,aqs]at c
 exact c
set_option maxRecDepth 100000 in
theorem zQ:Con Tryz.prog 14 true [] [] (isA (.v (.bool true))):=by
 obtain⟨n,hn⟩:∃n:Nat,n=1:=⟨1,rfl⟩
 have c:=adY n hn
 have en:(n:Int)=1:=by omega
 have hrow:qp ExV.cs [ex0]=[.v (.bool false),.sl 0 [],.v (.int .i64 0)]:=by
  simp[qp,ExV.cs,ex0,qm,qb]
 rw[en,hrow]at c
 have hr1:qp ExV.cs [ex1]=[.v (.bool false),.sl (lim 1).length (qb (lim 1)),.v (.int .i64 0)]:=by
  simp[qp,ExV.cs,ex1]
 rw[hr1]at c
 have cd1:=K9 0 (by omega)
 have cd2:=K9 (-9) (by omega)
 have csd:=JK false 1 0 false 1 0 (by rw[yO];decide) (by rw[yO];decide)
 rw[show(decide ((0:Int)=0)&&((false==false)&&decide ((1:Nat)=1)))=true from rfl]at csd
 have hb:∀e:Int, -3000≤e∧e≤3000→dyB false (lim 1) e=true:=fun e he=>by
  rw[yO];unfold dyB
  rw[show zH false [1]=true by decide,decide_eq_true he.1,decide_eq_true he.2];rfl
 have ccm:=JV false 1 (-14) false 1 (-9) (hb _ (by omega)) (hb _ (by omega))
 have hle:zy (dv 3000 false 1 (-14)) (dv 3000 false 1 (-9))≤0:=(YN _ _).1.2 (by
  unfold dv sv
  rw[if_neg (by simp),show(-9+((3000:Nat):Int)).toNat=(-14+((3000:Nat):Int)).toNat+5 by rfl,Int.pow_add]
  have:(0:Int)<2^(-14+((3000:Nat):Int)).toNat:=Int.pow_pos (by omega)
  generalize (2:Int)^(-14+((3000:Nat):Int)).toNat=p at*
  omega)
 have q3:decide (zy (dv 3000 false 1 (-14)) (dv 3000 false 1 (-9))≤0)=true:=decide_eq_true hle
 generalize zy (dv 3000 false 1 (-14)) (dv 3000 false 1 (-9))=C at*
 refine Con.of_aw Tryz.func14 rfl Tryz.ntmps14 (by simp) (by simp) (by simp)
  (AW.seqLe (E:=[(0,.v (.bool false))]) (H:=[]) (W.sound ?_) (AW.regSplit (E:=[(0,.v (.bool false)),(7,.ag [.v (.int .i64 1),.sl 1 [.v (.bool false),.sl 0 [],.v (.int .i64 0)]])]) (H:=[]) 3 (by simp only[List.take_succ_cons,List.take_zero];rfl) (by simp only[List.drop_succ_cons,List.drop_zero];rfl) ?_ ?_))
 ·show @W Tryz.prog 38 ⟨_⟩ ⟨_⟩ _ _
  simp(disch:=omega)only[go_sem]
  exact Le.lst [] _ _ rfl (by simp(disch:=omega)only[go_sem]) (by simp(disch:=omega)only[go_sem])
 ·simp(disch:=omega)only[go_sem]
  exact(Le.nilC 80000000 1 (zo:=3) (cs:=[.v (.bool false),.v (.slice none 0 0),.v (.int .i64 0)]) (by simp(disch:=omega)only[go_sem]) rfl).trans ((Le.frz 80000000 (z:=3) (ks:=[.v (.bool false),.sl 0 [],.v (.int .i64 0)]) (by simp(disch:=omega)only[go_sem,List.set_cons_succ,List.set_cons_zero]) rfl (by simp(disch:=omega)only[go_sem])).trans (Le.lst [] _ _ rfl (by simp(disch:=omega)only[go_sem]) (by simp(disch:=omega)only[go_sem])))
 show @Ch Tryz.prog 38 ⟨_⟩ ⟨_⟩ ⟨fun σ=>@W Tryz.prog 38 ⟨_⟩ ⟨fun x σ=>@q7 _ _ _ ⟨_⟩ _ ⟨_⟩ x σ⟩ σ.env σ.hp⟩ _ _
 simp(disch:=omega)only[go_sem]
 refine qa (c) ?_
 simp(disch:=omega)only[go_sem]
 refine qs rfl [⟨0,[],[]⟩,⟨1,[],[]⟩,⟨2,[],[]⟩,⟨3,[],[]⟩,⟨4,[],[]⟩,⟨5,[],[]⟩,⟨6,[],[]⟩,⟨7,[],[]⟩,⟨8,[],[]⟩,⟨9,[],[]⟩,⟨10,[],[]⟩,⟨11,[],[]⟩,⟨12,[],[]⟩,⟨13,[],[]⟩,⟨14,[],[]⟩,⟨15,[],[]⟩,⟨16,[],[]⟩,⟨17,[14,16],[]⟩,⟨18,[],[]⟩,⟨19,[],[]⟩,⟨20,[],[]⟩,⟨21,[],[]⟩,⟨22,[21],[]⟩,⟨23,[],[]⟩,⟨24,[],[]⟩,⟨25,[],[]⟩,⟨26,[],[]⟩] (by kernel_rfl) ?_
 simp(disch:=omega)only[go_sem]
 refine qa (cd1) ?_
 simp(disch:=omega)only[go_sem]
 refine ql (csd) ?_
 simp(disch:=omega)only[go_sem]
 refine qa (cd2) ?_
 simp(disch:=omega)only[go_sem]
 refine ql (ccm) ?_
 simp(disch:=omega)only[go_sem]
 simp(disch:=omega)only[go_sem,q3]
 exact qx
end Go.Ab
namespace Go.Ab
theorem aLf{K:Nat}{s:Bool}{m:Nat}{e:Int}{s':Bool}{m':Nat}{e':Int}(he: -(K:Int)≤e)(he': -(K:Int)≤e')(h:dv K s m e=dv K s' m' e'):oS s m=oS s' m'∧oM m=oM m'∧oE m e=oE m' e':=by
 by_cases h0:m=0
 ·have h0':m'=0:=by rw[h0,Qz]at h;exact ai5.1 h.symm
  rw[h0,h0'];exact⟨rfl,rfl,rfl⟩
 ·obtain⟨rfl,hM,hE,h0'⟩:=aSJ h0 he he' h
  refine⟨?_,hM,hE⟩
  unfold oS;rw[if_neg h0,if_neg h0']
end Go.Ab
namespace Go.Ab
open Go Go.Proofs
def ExV.val(K:Nat)(x:ExV):Int:=dv K x.s x.m x.e
theorem jx{x:ExV}(h:x.ok=true):(-3000≤x.e∧x.e≤3000)∧bl x.m≤1600∧(lim x.m).length≤100∧(x.m=0→x.s=false∧x.e=0)∧(x.m % 2=1∨x.m=0):=by
 obtain⟨m,e1,h1,h2,h3,h4,h5⟩:=jF h
 obtain rfl:=je e1
 exact⟨h3,h2,h1,fun h0=>⟨h5 h0,by omega⟩,by omega⟩
theorem aD8{x:ExV}(h:x.ok=true):x.can=x:=by
 obtain⟨h1,h2,h3,h4,h5⟩:=jx h
 show(⟨oS x.s x.m,oM x.m,oE x.m x.e⟩:ExV)=x
 obtain⟨s,m,e⟩:=x
 dsimp only at*
 rcases h5 with o|h0
 ·have h0:m≠0:=by omega
  have ht:=aee o
  have g1:oS s m=s:=by unfold oS;rw[if_neg h0]
  have g2:oM m=m:=by have:=@aEa m;rw[ht]at this;simpa using this
  have g3:oE m e=e:=by unfold oE;rw[if_neg h0,ht];simp
  rw[g1,g2,g3]
 ·obtain⟨rfl,rfl⟩:=h4 h0
  rw[h0,ZE];rfl
theorem aEr{x:ExV}(h:x.fit=true):x.can.ok=true:=by
 show dyB (oS x.s x.m) (lim (oM x.m)) (oE x.m x.e)=true
 rw[ZU];exact h
theorem JE:ex0.ok=true:=by show dyB false (lim 0) 0=true;rw[qm];decide
theorem Ja{K:Nat}{x:ExV}(h: -(K:Int)≤x.e):x.can.val K=x.val K:=by
 show dv K (oS x.s x.m) (oM x.m) (oE x.m x.e)=_
 rw[aLe h,baI];rfl
theorem Q7{K:Nat}{x y:ExV}(h1: -(K:Int)≤x.e)(h2: -(K:Int)≤y.e):(x.plus y).val K=x.val K+y.val K:=ba4 h1 h2
theorem yU{K K':Nat}{x y:ExV}(h1: -(K:Int)≤x.e)(h2: -(K':Int)≤y.e):(x.times y).val (K+K')=x.val K*y.val K':=by
 show dv (K+K') ((x.s != y.s)&&decide (x.m*y.m≠0)) (x.m*y.m) (x.e+y.e)=_
 rw[aSK];exact aSI h1 h2
theorem aL6{K:Nat}{x:ExV}:x.abs.val K=(x.val K).natAbs:=by
 show dv K false x.m x.e=((dv K x.s x.m x.e).natAbs:Int)
 unfold dv sv
 rw[Int.natAbs_mul]
 have hp:0≤(2:Int)^(x.e+(K:Int)).toNat:=Int.le_of_lt (Int.pow_pos (by omega))
 have e:(((2:Int)^(x.e+(K:Int)).toNat).natAbs:Int)=2^(x.e+(K:Int)).toNat:=by omega
 rw[Int.natCast_mul,e]
 cases x.s<;>simp
theorem aC2{K j:Nat}{x:ExV}(h: -(K:Int)≤x.e):x.val (K+j)=x.val K*2^j:=by
 unfold ExV.val dv
 have:(x.e+((K+j:Nat):Int)).toNat=(x.e+(K:Int)).toNat+j:=by omega
 rw[this,Int.pow_add,Int.mul_assoc]
theorem aen{K:Int}{x y:ExV}(h1:K≤x.e)(h2:K≤y.e):K≤(x.plus y).e:=yG h1 h2
theorem aOi{K:Nat}{x y:ExV}(h1:x.ok=true)(h2:y.ok=true)(k1: -(K:Int)≤x.e)(k2: -(K:Int)≤y.e)(h:x.val K=y.val K):x=y:=by
 obtain⟨g1,g2,g3⟩:=aLf k1 k2 h
 rw[←aD8 h1,←aD8 h2]
 show(⟨oS x.s x.m,oM x.m,oE x.m x.e⟩:ExV)=⟨oS y.s y.m,oM y.m,oE y.m y.e⟩
 rw[g1,g2,g3]
theorem aLv(x:ExV):x.can.ok=x.fit:=ZU x.s x.m x.e
def ExV.tel(x:ExV):ExV:=if x.fit=true then x.can else ex0
theorem j3(x:ExV):x.tel.ok=true:=by
 unfold ExV.tel;split
 ·rename_i h;exact aEr h
 ·exact JE
theorem J4{x:ExV}(h:x.fit=true):x.tel=x.can:=if_pos h
theorem aeM(x y:ExV)(ok:Bool)(hx:x.ok=true)(hy:y.ok=true):Con Tryz.prog 16 false [.ag [.v (.bool (x).s),.sl (lim (x).m).length (qb (lim (x).m)),.v (.int .i64 (x).e)],.ag [.v (.bool (y).s),.sl (lim (y).m).length (qb (lim (y).m)),.v (.int .i64 (y).e)],.v (.bool ok)] [] (isA (.tu [.ag [.v (.bool ((x.plus y).tel).s),.sl (lim ((x.plus y).tel).m).length (qb (lim ((x.plus y).tel).m)),.v (.int .i64 ((x.plus y).tel).e)],.v (.bool ((x.plus y).fit&&ok))])):=by
 have c:=ajh x.s x.m x.e y.s y.m y.e ok hx hy
 have e:zO (adM x.s x.m x.e y.s y.m y.e) (alE x.m x.e y.m y.e)=(x.plus y).fit:=rfl
 rw[e]at c
 unfold ExV.tel
 cases h:(x.plus y).fit
 ·rw[h,if_neg (by simp)]at c
  rw[if_neg (by simp)];exact c
 ·rw[h,if_pos rfl]at c
  rw[if_pos rfl];exact c
theorem Zf(x y:ExV)(ok:Bool)(hx:x.ok=true)(hy:y.ok=true):Con Tryz.prog 15 false [.ag [.v (.bool (x).s),.sl (lim (x).m).length (qb (lim (x).m)),.v (.int .i64 (x).e)],.ag [.v (.bool (y).s),.sl (lim (y).m).length (qb (lim (y).m)),.v (.int .i64 (y).e)],.v (.bool ok)] [] (isA (.tu [.ag [.v (.bool ((x.times y).tel).s),.sl (lim ((x.times y).tel).m).length (qb (lim ((x.times y).tel).m)),.v (.int .i64 ((x.times y).tel).e)],.v (.bool ((x.times y).fit&&ok))])):=by
 have c:=ajg x.s x.m x.e y.s y.m y.e ok hx hy
 have e:zO (x.m*y.m) (x.e+y.e)=(x.times y).fit:=rfl
 rw[e]at c
 unfold ExV.tel
 cases h:(x.times y).fit
 ·rw[h,if_neg (by simp)]at c
  rw[if_neg (by simp)];exact c
 ·rw[h,if_pos rfl]at c
  rw[if_pos rfl];exact c
theorem apJ(x y:ExV)(hx:x.ok=true)(hy:y.ok=true):Con Tryz.prog 13 true [.ag [.v (.bool (x).s),.sl (lim (x).m).length (qb (lim (x).m)),.v (.int .i64 (x).e)],.ag [.v (.bool (y).s),.sl (lim (y).m).length (qb (lim (y).m)),.v (.int .i64 (y).e)]] [] (isA (.v (.bool (decide (x=y))))):=by
 have c:=JK x.s x.m x.e y.s y.m y.e (by have:=(jx hx).2.2.1;omega) (by have:=(jx hy).2.2.1;omega)
 have e:(decide (x.e=y.e)&&((x.s==y.s)&&decide (x.m=y.m)))=decide (x=y):=by
  obtain⟨s,m,e⟩:=x
  obtain⟨t,n,f⟩:=y
  rw[Bool.eq_iff_iff]
  simp only[Bool.and_eq_true,decide_eq_true_eq,beq_iff_eq,ExV.mk.injEq]
  exact⟨fun⟨a,b,c⟩=>⟨b,c,a⟩,fun⟨a,b,c⟩=>⟨c,a,b⟩⟩
 rw[e]at c;exact c
theorem aac(x y:ExV)(hx:x.ok=true)(hy:y.ok=true):Con Tryz.prog 18 true [.ag [.v (.bool (x).s),.sl (lim (x).m).length (qb (lim (x).m)),.v (.int .i64 (x).e)],.ag [.v (.bool (y).s),.sl (lim (y).m).length (qb (lim (y).m)),.v (.int .i64 (y).e)]] [] (isA (.v (.int .i64 (zy (x.val 3000) (y.val 3000))))):=JV x.s x.m x.e y.s y.m y.e hx hy
/-! ### Floats that are numbers-/
def flD(F:FlV):ExV:=⟨oS (xS F.k F.s) F.m.toNat,oM F.m.toNat,oE F.m.toNat F.e⟩
end Go.Ab
namespace Go.Ab
open Go
section
variable {P:Program}{f:FuncId}{args:List AV}{bs:List Ob}{post:AV→List Ob→List Ob→Prop}
theorem Con.frzB(h:Con P f false args bs post)(hm:∀r hs bs',post r hs bs'→(∀ob∈bs',ob.men fun _=>False)∧∀ob∈hs,ob.men fun _=>False):
  Con P f false args bs (fun r' hs' bs'=>hs'=[]∧∃r hs,post r hs bs'∧r'=qE (rhp hs []) 6 r):=by
 intro R ι w vs h1 h2 h3 h4 h5
 refine(h R ι w vs h1 h2 h3 h4 h5).mono ?_
 rintro e w' ⟨x,r,hs,bs',R',ι',he,hp,hF⟩
 obtain⟨mB,mH⟩:=hm _ _ _ hp
 have hfree:∀m,10000000≤m→rhp hs [] m=.free:=fun m hm=>by simp[rhp,hm]
 have hlow:∀m,m<10000000→rhp hs [] m=rhp hs bs' m:=fun m hm=>by unfold rhp;rw[if_neg (by omega),if_neg (by omega)]
 have hnil:∀m,m<10000000→rhp [] bs' m=.free:=fun m hm=>by unfold rhp;rw[if_neg (by omega)];simp
 have hhi:∀m,10000000≤m→rhp [] bs' m=rhp hs bs' m:=fun m hm=>by unfold rhp;rw[if_pos hm,if_pos hm]
 have hsm:∀{m z cs},rhp hs [] m=.own z cs→m<10000000∧rhp hs bs' m=.own z cs:=by
  intro m z cs e
  rcases Nat.lt_or_ge m 10000000 with hm|hm
  ·exact⟨hm,by rw[←hlow m hm];exact e⟩
  ·rw[hfree m hm]at e;cases e
 have hbg:∀{m z cs},rhp [] bs' m=.own z cs→10000000≤m∧rhp hs bs' m=.own z cs:=by
  intro m z cs e
  rcases Nat.lt_or_ge m 10000000 with hm|hm
  ·rw[hnil m hm]at e;cases e
  ·exact⟨hm,by rw[←hhi m hm];exact e⟩
 have hget:∀(l:List Ob) (k z:Nat) (cs:List AV),(∀ob∈l,ob.men fun _=>False)→l.getD k .free=.own z cs→AllL (fun _=>False) cs:=by
  intro l k z cs hl e
  rw[List.getD_eq_getElem?_getD]at e
  rcases Nat.lt_or_ge k l.length with hk|hk
  ·rw[List.getElem?_eq_getElem hk]at e
   have:=hl _ (List.getElem_mem hk)
   simp only[Option.getD_some]at e
   rw[e]at this;exact this
  ·rw[List.getElem?_eq_none hk]at e;cases e
 have hO:HpOk R' ι' w' (rhp hs []):=by
  refine⟨fun m=>?_,fun m z cs B e hB hr=>hF.nR m z cs B (hsm e).2 hB (.inr hr),fun m m' z z' cs cs' B B' e e'=>hF.inj m m' z z' cs cs' B B' (hsm e).2 (hsm e').2,fun m z cs e=>?_⟩
  ·rcases Nat.lt_or_ge m 10000000 with hm|hm
   ·rw[hlow m hm];exact hF.okF m hm
   ·rw[hfree m hm];trivial
  ·have h6:=(hsm e).1
   unfold rhp at e
   rw[if_neg (by omega)]at e
   exact(hget hs m z cs mH e).mono fun _ h=>h.elim
 have hown:∀{m z cs B},rhp hs [] m=.own z cs→ι' m=some B→w.heap.size≤B.b∧B.b<w'.heap.size:=by
  intro m z cs B e hB
  obtain⟨hm,e⟩:=hsm e
  refine⟨hF.fresh m z cs B hm e hB,?_⟩
  have:=hF.okF m hm
  rw[e,hB]at this
  obtain⟨c,T,lo,hi,g1,_⟩:=this
  rcases Nat.lt_or_ge B.b w'.heap.size with h'|h'
  ·exact h'
  ·simp[Array.getElem?_eq_none h']at g1
 refine⟨x,qE (rhp hs []) 6 r,[],bs',fun b=>R' b∨aq5 (rhp hs []) ι' b,ι',he,⟨rfl,r,hs,hp,rfl⟩,?_⟩
 refine⟨hF.ext,fun b hb=>?_,fun b hb=>?_,.fr _ _ (zE hO (fun _ h=>.inl h) (fun _ h=>.inr h) 6 hF.rep),jg 6 r,fun m hm=>?_,fun m hm=>?_,fun m z cs B e hB=>?_,
  fun m m' z z' cs cs' B B' e e'=>hF.inj m m' z z' cs cs' B B' (hbg e).2 (hbg e').2,fun m z cs e=>?_,fun m z cs B hm e=>?_,hF.len,hF.bown,hF.bnf⟩
 ·rcases hb with hb|⟨m,z,cs,B,e,hB,rfl⟩
  ·exact hF.rlt b hb
  ·exact(hown e hB).2
 ·rcases hb with hb|⟨m,z,cs,B,e,hB,rfl⟩
  ·exact hF.rnew b hb
  ·exact .inl (hown e hB).1
 ·rw[hnil m hm];trivial
 ·rw[hhi m hm]
  exact(hF.okB m hm).mono (fun _ _=>rfl) (fun _ _ _ _ _=>rfl) (fun b hb=>hb.elim .inl fun h=>.inr (.inl h)) (fun z cs e=>AllL.of_mem fun a _=>AV.all_true (fun _=>rfl) a)
 ·obtain⟨hm,e⟩:=hbg e
  have h6:=hF.nR m z cs B e hB
  rintro(hr|hr|⟨m',z',cs',B',e',hB',hb⟩)
  ·exact h6 (.inl hr)
  ·exact h6 (.inr hr)
  ·obtain⟨hm',e'⟩:=hsm e'
   have:=hF.inj m' m z' z cs' cs B' B e' e hB' hB hb
   omega
 ·have h6:=(hbg e).1
  unfold rhp at e
  rw[if_pos h6]at e
  exact(hget bs' _ z cs mB e).mono fun _ h=>h.elim
 ·rw[hnil m hm]at e;cases e
end
end Go.Ab
namespace Go.Ab
open Go
structure IvV where
 lo:DyV
 hi:DyV
def IvV.cs(x:IvV):List AV:=x.lo.cs++x.hi.cs
def dy0:DyV:=⟨false,[],0⟩
def iv0:IvV:=⟨dy0,dy0⟩
theorem aOH(x:IvV):x.cs.length=6:=rfl
theorem aEf{ρ:Nat→Nat}(x:IvV):zJ ρ x.cs=x.cs:=rfl
theorem ao1{hp:Nat→Ob}{k:Nat}(x:IvV):x.cs.map (qE hp (k+1))=x.cs:=rfl
theorem aEg{p:Nat→Prop}(x:IvV):AllL p x.cs:=by simp[IvV.cs,DyV.cs,AllL,AV.All]
theorem aJ3{l:List IvV}:(qp IvV.cs l).length=l.length*6:=yM aOH
theorem aJ2{ρ:Nat→Nat}{l:List IvV}:zJ ρ (qp IvV.cs l)=qp IvV.cs l:=Zw aEf
theorem aBl{hp:Nat→Ob}{k:Nat}{l:List IvV}:(qp IvV.cs l).map (qE hp (k+1))=qp IvV.cs l:=y4 ao1
theorem aJ4{p:Nat→Prop}{l:List IvV}:AllL p (qp IvV.cs l)=True:=eq_true (Zx aEg)
theorem aBm{p:Nat→Prop}{x:IvV}:AllL p x.cs=True:=eq_true (aEg x)
attribute [go_sem] aJ3 aJ2 aBl aJ4 aBm aEf ao1
end Go.Ab
namespace Go.Ab
open Go Go.Proofs
section
variable (g:Nat)(p:IvV→Bool)
end
end Go.Ab
namespace Go.Ab
open Go Go.Proofs
/-! ### Intervals that were drawn,and those that are valid-/
def DyV.ex(d:DyV):ExV:=⟨d.s,(vl d.xs).toNat,d.e⟩
def ExV.dyv(x:ExV):DyV:=⟨x.s,lim x.m,x.e⟩
theorem baH(x:ExV):x.dyv.ex=x:=by unfold ExV.dyv DyV.ex;rw[qZ,Int.toNat_natCast]
theorem aSA{d:DyV}(h:d.ok=true):d=d.ex.dyv∧d.ex.ok=true:=by
 obtain⟨s,xs,e⟩:=d
 obtain⟨m,hm, -⟩:=jF (show dyB s xs e=true from h)
 subst hm
 have e1:(DyV.mk s (lim m) e).ex=⟨s,m,e⟩:=baH ⟨s,m,e⟩
 rw[e1]
 exact⟨rfl,h⟩
def ivB(v:IvV):Bool:=v.lo.ok&&(v.hi.ok&&decide (v.lo.ex.val 3000≤v.hi.ex.val 3000))
def IvV.sp(v:IvV):SpV:=⟨v.lo.ex,v.hi.ex⟩
def SpV.iv(s:SpV):IvV:=⟨s.lo.dyv,s.hi.dyv⟩
def SpV.ok(s:SpV):Bool:=s.lo.ok&&(s.hi.ok&&decide (s.lo.val 3000≤s.hi.val 3000))
theorem aLp{K:Nat}{x y:ExV}(h1: -(K:Int)≤x.e)(h2: -(K:Int)≤y.e):x.cmp y=zy (x.val K) (y.val K):=by
 unfold ExV.cmp
 exact aeO h1 h2
def bd1(v:IvV):Prop:=v.lo.xs.length≤1000∧v.hi.xs.length≤1000
def aJN(s t:SpV):SpV:=⟨zn [s.lo,t.lo],jy [s.hi,t.hi]⟩
def bdw(s t:SpV):SpV:=⟨jy [s.lo,t.lo],zn [s.hi,t.hi]⟩
def SpV.tel(s:SpV):SpV:=if s.fit=true then s.can else sp0
def bdu(s t:SpV):SpV:=if(aJN s t).lo.val 3000≤(aJN s t).hi.val 3000 then aJN s t else sp0
def bdU(s:SpV)(x:ExV):Bool:=decide (s.lo.val 3000≤x.val 3000)&&decide (x.val 3000≤s.hi.val 3000)
end Go.Ab
namespace Go.Ab
open Go Go.Proofs
/-! ### Matrices that were drawn,and those that are valid-/
structure matV(n:Nat)(L:List ExV):Prop where
 n1:1≤n
 n4:n≤4
 len:L.length=n*n
 ok:∀x∈L,x.ok=true
theorem aoK{k:Int}{M:List DyV}(h:adk k M=true):∃(n:Nat) (L:List ExV),k=n∧M=L.map ExV.dyv∧matV n L:=by
 simp only[adk,Bool.and_eq_true,decide_eq_true_eq,List.all_eq_true]at h
 obtain⟨⟨h1,h2⟩,h3,h4⟩:=h
 obtain⟨n,rfl⟩:=Int.eq_ofNat_of_zero_le (show 0≤k by omega)
 have hm:M=(M.map DyV.ex).map ExV.dyv:=by
  rw[List.map_map]
  conv=>lhs;rw[←List.map_id M]
  exact List.map_congr_left fun d hd=>(aSA (h4 d hd)).1
 refine⟨n,M.map DyV.ex,rfl,hm,by omega,by omega,?_,fun x hx=>?_⟩
 ·rw[List.length_map];exact_mod_cast h3
 ·obtain⟨d,hd,rfl⟩:=List.mem_map.1 hx
  exact(aSA (h4 d hd)).2
theorem yn(L:List ExV):qp DyV.cs (L.map ExV.dyv)=qp ExV.cs L:=by unfold qp;rw[List.map_map];rfl
theorem matV.bd{n:Nat}{L:List ExV}(h:matV n L):gbd (-3000) 4600 L:=fun x hx=>aoq (h.ok x hx)
theorem matV.bd4{n:Nat}{L:List ExV}(h:matV n L):gbd (-400000) 400000 L:=fun x hx=>(aoq (h.ok x hx)).mono (by omega) (by omega)
theorem matV.bd3{n:Nat}{L:List ExV}(h:matV n L):gbd (-190000) 190000 L:=fun x hx=>(aoq (h.ok x hx)).mono (by omega) (by omega)
theorem matV.l16{n:Nat}{L:List ExV}(h:matV n L):L.length≤16:=by rw[h.len];exact yY h.n4
theorem yx(n:Nat)(L:List ExV)(h:matV n L):Con Tryz.prog 76 true [.ag [.v (.int .i64 (n)),.sl (L).length (qp ExV.cs (L))]] [] (isA (.v (.bool true))):=by
 have c:=JU n L (by have:=h.l16;omega) (fun x hx=>by have:=(jx (h.ok x hx)).2.2.1;omega)
 rw[show aJP n L=true by
  unfold aJP
  simp only[Bool.and_eq_true,decide_eq_true_eq,List.all_eq_true]
  exact⟨⟨by have:=h.n1;omega,by have:=h.n4;omega⟩,by rw[h.len,Int.natCast_mul],h.ok⟩]at c
 exact c
theorem QH(k:Int)(M:List DyV)(h1:M.length≤16)(h2:∀d∈M,d.xs.length≤200):Con Tryz.prog 76 true [.ag [.v (.int .i64 k),.sl M.length (qp DyV.cs M)]] [] (isA (.v (.bool (adk k M)))):=
 aag k M (by omega) fun d hd=>by have:=h2 d hd;omega
theorem aLo(x:ExV)(hx:x.bd (-400000) 400000):Con Tryz.prog 68 false [.ag [.v (.bool (x).s),.sl (lim (x).m).length (qb (lim (x).m)),.v (.int .i64 (x).e)]] [] (isA (.tu [.ag [.v (.bool (x.tel).s),.sl (lim (x.tel).m).length (qb (lim (x.tel).m)),.v (.int .i64 (x.tel).e)],.v (.bool x.fit)])):=by
 have c:=Z5 x hx
 unfold ExV.tel
 cases hf:x.fit<;>rw[hf]at c<;>exact c
def gN(n:Nat)(l:List ExV):Nat:=if l.all ExV.fit=true then n else 0
def gT(l:List ExV):List ExV:=if l.all ExV.fit=true then l.map ExV.can else []
theorem YF(n:Nat)(l:List ExV)(hl:l.length≤1000)(hb:gbd (-400000) 400000 l):Con Tryz.prog 81 false [.ag [.v (.int .i64 (n)),.sl (l).length (qp ExV.cs (l))]] [] (isA (.tu [.ag [.v (.int .i64 (gN n l)),.sl (gT l).length (qp ExV.cs (gT l))],.v (.bool (l.all ExV.fit))])):=by
 have c:=apR n l hl hb
 unfold gN gT
 cases h:l.all ExV.fit
 ·rw[h,if_neg (by simp)]at c
  rw[if_neg (by simp),if_neg (by simp)]
  exact c
 ·rw[h,if_pos rfl]at c
  rw[if_pos rfl,if_pos rfl,List.length_map]
  exact c
theorem aBu{n:Nat}{l:List ExV}(h1:1≤n)(h4:n≤4)(hl:l.length=n*n)(h:l.all ExV.fit=true):gN n l=n∧gT l=l.map ExV.can∧matV n (l.map ExV.can):=by
 refine⟨if_pos h,if_pos h,h1,h4,by rw[List.length_map];exact hl,fun x hx=>?_⟩
 obtain⟨y,hy,rfl⟩:=List.mem_map.1 hx
 exact aEr (List.all_eq_true.1 h y hy)
theorem QQ(n n':Nat)(L L':List ExV)(h:matV n L)(h':matV n' L'):Con Tryz.prog 79 true [.ag [.v (.int .i64 (n)),.sl (L).length (qp ExV.cs (L))],.ag [.v (.int .i64 (n')),.sl (L').length (qp ExV.cs (L'))]] [] (isA (.v (.bool (decide (n=n'))))):=by
 refine Con.of_aw Tryz.func79 rfl Tryz.ntmps79 (by simp) (by simp) (by simp) (W.sound ?_)
 show @W Tryz.prog 18 ⟨_⟩ ⟨fun x σ=>@q7 _ _ _ ⟨_⟩ _ ⟨_⟩ x σ⟩ _ _
 simp(disch:=omega)only[go_sem]
 refine ql (yx n L h) ?_
 simp(disch:=omega)only[go_sem]
 refine ql (yx n' L' h') ?_
 simp(disch:=omega)only[go_sem]
 refine qz (by simp(disch:=omega)only[go_sem]) (by simp(disch:=omega)only[go_sem]) ⟨?_,rfl,rfl⟩
 show AV.v (.bool _)=AV.v (.bool _)
 congr 2
 exact decide_eq_decide.2 ⟨fun h=>by omega,fun h=>by omega⟩
def aq4(k:Int)(M:List DyV)(k':Int)(M':List DyV):Bool:=adk k M&&(adk k' M'&&decide (k=k'))
theorem QR(k k':Int)(M M':List DyV)(h1:M.length≤16)(h2:∀d∈M,d.xs.length≤200)(h3:M'.length≤16)(h4:∀d∈M',d.xs.length≤200):
  Con Tryz.prog 79 true [.ag [.v (.int .i64 k),.sl M.length (qp DyV.cs M)],.ag [.v (.int .i64 k'),.sl M'.length (qp DyV.cs M')]] [] (isA (.v (.bool (aq4 k M k' M')))):=by
 unfold aq4
 have c1:=QH k M h1 h2
 have c2:=QH k' M' h3 h4
 generalize adk k M=b1 at*
 generalize adk k' M'=b2 at*
 cases b1
 ·refine Con.of_w (rs:=[.tmp 4]) Tryz.func79 rfl Tryz.ntmps79 rfl ?_
  simp(disch:=omega)only[go_sem]
  refine ql (c1) ?_
  simp(disch:=omega)only[go_sem]
  exact qx
 cases b2
 ·refine Con.of_w (rs:=[.tmp 4]) Tryz.func79 rfl Tryz.ntmps79 rfl ?_
  simp(disch:=omega)only[go_sem]
  refine ql (c1) ?_
  simp(disch:=omega)only[go_sem]
  refine ql (c2) ?_
  simp(disch:=omega)only[go_sem]
  exact qx
 ·refine Con.of_w (rs:=[.tmp 4]) Tryz.func79 rfl Tryz.ntmps79 rfl ?_
  simp(disch:=omega)only[go_sem]
  refine ql (c1) ?_
  simp(disch:=omega)only[go_sem]
  refine ql (c2) ?_
  simp(disch:=omega)only[go_sem]
  exact qx
theorem ao6{n:Nat}{L L':List ExV}{lo hi:Int}(hl:L.length=n*n)(hl':L'.length=n*n)(hb:gbd lo hi L)(hb':gbd lo hi L'):gbd lo (hi+1) (j6 n L L'):=
 aBs fun i j hi hj=>ExV.plus_bd (qW hb (by rw[hl];exact zl hi hj)) (qW hb' (by rw[hl'];exact zl hi hj))
theorem aiY{n:Nat}{L L':List ExV}(h:matV n L)(h':matV n L'):gbd (-6000) 9204 (zR n L L'):=
 aBs fun i j hi hj=>(apz (l1:= -3000) (h1:=4600) (l2:= -3000) (h2:=4600) hi hj (Nat.le_refl n) h.len h'.len h.bd h'.bd (by omega)).mono (by omega) (by have:=h.n4;omega)
theorem adq{n:Nat}{L:List ExV}{y:ExV}(h:matV n L)(hy:y.ok=true):gbd (-6000) 9200 (qY n L y):=
 aBs fun i j hi hj=>ExV.times_bd (qW h.bd (by rw[h.len];exact zl hi hj)) (aoq hy)
theorem adW(n:Nat)(L L':List ExV)(h:matV n L)(h':matV n L'):Con Tryz.prog 21 false [.ag [.v (.int .i64 (n)),.sl (L).length (qp ExV.cs (L))],.ag [.v (.int .i64 (n)),.sl (L').length (qp ExV.cs (L'))]] [] (isA (.tu [.ag [.v (.int .i64 (gN n (j6 n L L'))),.sl (gT (j6 n L L')).length (qp ExV.cs (gT (j6 n L L')))],.v (.bool ((j6 n L L').all ExV.fit))])):=by
 refine Con.frzA ?_
 have ca:=QQ n n L L' h h'
 rw[decide_eq_true rfl]at ca
 have co:=aqd n L L' h.n4 h.len h'.len h.bd4 h'.bd4
 have hl:(j6 n L L').length=n*n:=ja
 have cm:=YF n (j6 n L L') (by have:=yY h.n4;omega) (jz (ao6 h.len h'.len h.bd h'.bd) (by omega) (by omega))
 generalize j6 n L L'=y at*
 refine Con.of_w (rs:=[.cell 4 42,.tmp 5]) Tryz.func21 rfl Tryz.ntmps21 rfl ?_
 simp(disch:=omega)only[go_sem]
 refine ql (ca) ?_
 simp(disch:=omega)only[go_sem]
 refine qs rfl [⟨0,[],[]⟩,⟨2,[0],[]⟩,⟨1,[2],[]⟩,⟨3,[],[]⟩,⟨4,[],[]⟩,⟨5,[],[]⟩,⟨6,[],[]⟩,⟨7,[],[]⟩,⟨8,[],[]⟩,⟨9,[],[]⟩] (by kernel_rfl) ?_
 simp(disch:=omega)only[go_sem]
 refine qa (zp n L (by have:=h.l16;omega)) ?_
 simp(disch:=omega)only[go_sem]
 refine qa (zp n L' (by have:=h'.l16;omega)) ?_
 simp(disch:=omega)only[go_sem]
 refine qa (co) ?_
 simp(disch:=omega)only[go_sem]
 refine qa (cm) ?_
 simp(disch:=omega)only[go_sem]
 exact qi
theorem j1(k k':Int)(M M':List DyV)(h1:M.length≤16)(h2:∀d∈M,d.xs.length≤200)(h3:M'.length≤16)(h4:∀d∈M',d.xs.length≤200)(h:aq4 k M k' M'=false):
  Con Tryz.prog 21 false [.ag [.v (.int .i64 k),.sl M.length (qp DyV.cs M)],.ag [.v (.int .i64 k'),.sl M'.length (qp DyV.cs M')]] [] (isA (.tu [.ag [.v (.int .i64 0),.sl 0 []],.v (.bool false)])):=by
 refine Con.frzA ?_
 have ca:=QR k k' M M' h1 h2 h3 h4
 rw[h]at ca
 refine Con.of_w (rs:=[.cell 4 42,.tmp 5]) Tryz.func21 rfl Tryz.ntmps21 rfl ?_
 simp(disch:=omega)only[go_sem]
 refine ql (ca) ?_
 simp(disch:=omega)only[go_sem]
 exact qi
theorem adV(n:Nat)(L L':List ExV)(h:matV n L)(h':matV n L'):Con Tryz.prog 22 false [.ag [.v (.int .i64 (n)),.sl (L).length (qp ExV.cs (L))],.ag [.v (.int .i64 (n)),.sl (L').length (qp ExV.cs (L'))]] [] (isA (.tu [.ag [.v (.int .i64 (gN n (zR n L L'))),.sl (gT (zR n L L')).length (qp ExV.cs (gT (zR n L L')))],.v (.bool ((zR n L L').all ExV.fit))])):=by
 refine Con.frzA ?_
 have ca:=QQ n n L L' h h'
 rw[decide_eq_true rfl]at ca
 have co:=ajq n L L' h.n4 h.len h'.len h.bd3 h'.bd3
 have hl:(zR n L L').length=n*n:=ja
 have cm:=YF n (zR n L L') (by have:=yY h.n4;omega) (jz (aiY h h') (by omega) (by omega))
 generalize zR n L L'=y at*
 refine Con.of_w (rs:=[.cell 4 42,.tmp 5]) Tryz.func22 rfl Tryz.ntmps22 rfl ?_
 simp(disch:=omega)only[go_sem]
 refine ql (ca) ?_
 simp(disch:=omega)only[go_sem]
 refine qs rfl [⟨0,[],[]⟩,⟨2,[0],[]⟩,⟨1,[2],[]⟩,⟨3,[],[]⟩,⟨4,[],[]⟩,⟨5,[],[]⟩,⟨6,[],[]⟩,⟨7,[],[]⟩,⟨8,[],[]⟩,⟨9,[],[]⟩] (by kernel_rfl) ?_
 simp(disch:=omega)only[go_sem]
 refine qa (zp n L (by have:=h.l16;omega)) ?_
 simp(disch:=omega)only[go_sem]
 refine qa (zp n L' (by have:=h'.l16;omega)) ?_
 simp(disch:=omega)only[go_sem]
 refine qa (co) ?_
 simp(disch:=omega)only[go_sem]
 refine qa (cm) ?_
 simp(disch:=omega)only[go_sem]
 exact qi
theorem j0(k k':Int)(M M':List DyV)(h1:M.length≤16)(h2:∀d∈M,d.xs.length≤200)(h3:M'.length≤16)(h4:∀d∈M',d.xs.length≤200)(h:aq4 k M k' M'=false):
  Con Tryz.prog 22 false [.ag [.v (.int .i64 k),.sl M.length (qp DyV.cs M)],.ag [.v (.int .i64 k'),.sl M'.length (qp DyV.cs M')]] [] (isA (.tu [.ag [.v (.int .i64 0),.sl 0 []],.v (.bool false)])):=by
 refine Con.frzA ?_
 have ca:=QR k k' M M' h1 h2 h3 h4
 rw[h]at ca
 refine Con.of_w (rs:=[.cell 4 42,.tmp 5]) Tryz.func22 rfl Tryz.ntmps22 rfl ?_
 simp(disch:=omega)only[go_sem]
 refine ql (ca) ?_
 simp(disch:=omega)only[go_sem]
 exact qi
theorem zK(n:Nat)(L:List ExV)(h:matV n L):Con Tryz.prog 20 false [.ag [.v (.int .i64 (n)),.sl (L).length (qp ExV.cs (L))]] [] (isA (.tu [.ag [.v (.bool ((q8 n L n).tel).s),.sl (lim ((q8 n L n).tel).m).length (qb (lim ((q8 n L n).tel).m)),.v (.int .i64 ((q8 n L n).tel).e)],.v (.bool (q8 n L n).fit)])):=by
 refine Con.frzA ?_
 have cn:=Ze n L h.n4 h.len (jz h.bd (by omega) (by omega))
 have bn:=Q9 (n:=n) (l:=L) h.len h.bd (by omega) n (Nat.le_refl n)
 have cd:=aLo (q8 n L n) (bn.mono (by omega) (by have:=h.n4;omega))
 generalize q8 n L n=y at*
 refine Con.of_w (rs:=[.cell 2 29,.tmp 3]) Tryz.func20 rfl Tryz.ntmps20 rfl ?_
 simp(disch:=omega)only[go_sem]
 refine ql (yx n L h) ?_
 simp(disch:=omega)only[go_sem]
 refine qa (zp n L (by have:=h.l16;omega)) ?_
 simp(disch:=omega)only[go_sem]
 refine qa (cn) ?_
 simp(disch:=omega)only[go_sem]
 refine qa (cd) ?_
 simp(disch:=omega)only[go_sem]
 exact qi
theorem zD(k:Int)(M:List DyV)(h1:M.length≤16)(h2:∀d∈M,d.xs.length≤200)(h:adk k M=false):Con Tryz.prog 20 false [.ag [.v (.int .i64 k),.sl M.length (qp DyV.cs M)]] [] (isA (.tu [.ag [.v (.bool (false)),.sl (lim (0)).length (qb (lim (0))),.v (.int .i64 (0))],.v (.bool false)])):=by
 refine Con.frzA ?_
 have c:=QH k M h1 h2
 rw[h]at c
 rw[qm]
 refine Con.of_w (rs:=[.cell 2 29,.tmp 3]) Tryz.func20 rfl Tryz.ntmps20 rfl ?_
 simp(disch:=omega)only[go_sem]
 refine ql (c) ?_
 simp(disch:=omega)only[go_sem]
 exact qi
theorem YM(n:Nat)(L:List ExV)(y:ExV)(h:matV n L)(hy:y.ok=true):Con Tryz.prog 23 false [.ag [.v (.int .i64 (n)),.sl (L).length (qp ExV.cs (L))],.ag [.v (.bool (y).s),.sl (lim (y).m).length (qb (lim (y).m)),.v (.int .i64 (y).e)]] [] (isA (.tu [.ag [.v (.int .i64 (gN n (qY n L y))),.sl (gT (qY n L y)).length (qp ExV.cs (gT (qY n L y)))],.v (.bool ((qY n L y).all ExV.fit))])):=by
 refine Con.frzA ?_
 have k1:=aeL y.s (lim y.m) y.e (by have:=(jx hy).2.2.1;omega)
 rw[show dyB y.s (lim y.m) y.e=true from hy]at k1
 have co:=Z2 n L y h.n4 h.len h.bd4 ((aoq hy).mono (by omega) (by omega))
 have hl:(qY n L y).length=n*n:=ja
 have cm:=YF n (qY n L y) (by have:=yY h.n4;omega) (jz (adq h hy) (by omega) (by omega))
 generalize qY n L y=z at*
 refine Con.of_w (rs:=[.cell 4 42,.tmp 5]) Tryz.func23 rfl Tryz.ntmps23 rfl ?_
 simp(disch:=omega)only[go_sem]
 refine ql (yx n L h) ?_
 simp(disch:=omega)only[go_sem]
 refine ql (k1) ?_
 simp(disch:=omega)only[go_sem]
 refine qs rfl [⟨0,[],[]⟩,⟨2,[0],[]⟩,⟨1,[2],[]⟩,⟨3,[],[]⟩,⟨4,[],[]⟩,⟨5,[],[]⟩,⟨6,[],[]⟩,⟨7,[],[]⟩,⟨8,[],[]⟩,⟨9,[],[]⟩] (by kernel_rfl) ?_
 simp(disch:=omega)only[go_sem]
 refine qa (zp n L (by have:=h.l16;omega)) ?_
 simp(disch:=omega)only[go_sem]
 refine qa (Z4 y.s y.m y.e) ?_
 simp(disch:=omega)only[go_sem]
 refine qa (co) ?_
 simp(disch:=omega)only[go_sem]
 refine qa (cm) ?_
 simp(disch:=omega)only[go_sem]
 exact qi
end Go.Ab
namespace Go.Ab
/-! ### Sums and greatest ones of whole numbers-/
def qK(f:Nat→Int):Nat→Int
 |0=>0
 |k+1=>qK f k+f k
def jh(f:Nat→Int):Nat→Int
 |0=>0
 |k+1=>if jh f k<f k then f k else jh f k
theorem jo{f g:Nat→Int}:∀{k:Nat},(∀i,i<k→f i=g i)→qK f k=qK g k
 |0,_=>rfl
 |k+1,h=>by rw[qK,qK,jo fun i hi=>h i (by omega),h k (by omega)]
theorem Q5{f g:Nat→Int}:∀{k:Nat},(∀i,i<k→f i≤g i)→qK f k≤qK g k
 |0,_=>Int.le_refl _
 |k+1,h=>by
  have h1:=Q5 (f:=f) (g:=g) (k:=k) fun i hi=>h i (by omega)
  have h2:=h k (by omega)
  rw[qK,qK];omega
theorem Zq(f g:Nat→Int):∀k:Nat,qK (fun i=>f i+g i) k=qK f k+qK g k
 |0=>rfl
 |k+1=>by rw[qK,qK,qK,Zq f g k];omega
theorem Qq(f:Nat→Int)(c:Int):∀k:Nat,qK (fun i=>f i*c) k=qK f k*c
 |0=>by simp[qK]
 |k+1=>by rw[qK,qK,Qq f c k,Int.add_mul]
theorem Jr(f:Nat→Int)(c:Int):∀k:Nat,qK (fun i=>c*f i) k=c*qK f k
 |0=>by simp[qK]
 |k+1=>by rw[qK,qK,Jr f c k,Int.mul_add]
theorem Qp:∀k:Nat,qK (fun _=>0) k=0
 |0=>rfl
 |k+1=>by rw[qK,Qp k];rfl
theorem Js(g:Nat→Nat→Int)(m:Nat):∀k:Nat,qK (fun i=>qK (fun t=>g i t) m) k=qK (fun t=>qK (fun i=>g i t) k) m
 |0=>(Qp m).symm
 |k+1=>by
  rw[qK,Js g m k,←Zq]
  exact jo fun t _=>rfl
theorem Kn(f:Nat→Int):∀k:Nat,((qK f k).natAbs:Int)≤qK (fun i=>((f i).natAbs:Int)) k
 |0=>Int.le_refl _
 |k+1=>by
  have:=Kn f k
  rw[qK,qK];omega
theorem anY{f:Nat→Int}{j:Nat}:∀{k:Nat},j<k→(∀i,i<k→i≠j→f i=0)→qK f k=f j
 |0,h,_=>by omega
 |k+1,h,h2=>by
  rw[qK]
  by_cases hj:j=k
  ·subst hj
   have:qK f j=qK (fun _=>0) j:=jo fun i hi=>h2 i (by omega) (by omega)
   rw[this,Qp];omega
  ·rw[anY (by omega) (fun i hi=>h2 i (by omega)),h2 k (by omega) (by omega)];omega
theorem QN(f:Nat→Int):∀k:Nat,0≤jh f k
 |0=>Int.le_refl _
 |k+1=>by have:=QN f k;rw[jh];split<;>omega
theorem aer(f:Nat→Int){j:Nat}:∀{k:Nat},j<k→f j≤jh f k
 |0,h=>by omega
 |k+1,h=>by
  rw[jh]
  by_cases hj:j=k
  ·subst hj;split<;>omega
  ·have:=aer f (j:=j) (k:=k) (by omega)
   split<;>omega
theorem Yh{f:Nat→Int}{c:Int}(hc:0≤c):∀{k:Nat},(∀j,j<k→f j≤c)→jh f k≤c
 |0,_=>hc
 |k+1,h=>by
  have h1:=Yh hc (k:=k) fun j hj=>h j (by omega)
  have h2:=h k (by omega)
  rw[jh];split<;>omega
theorem ZF{f g:Nat→Int}:∀{k:Nat},(∀i,i<k→f i=g i)→jh f k=jh g k
 |0,_=>rfl
 |k+1,h=>by rw[jh,jh,ZF fun i hi=>h i (by omega),h k (by omega)]
theorem KH(f:Nat→Int){c:Int}(hc:0<c):∀k:Nat,jh (fun j=>f j*c) k=jh f k*c
 |0=>by simp[jh]
 |k+1=>by
  rw[jh,jh,KH f hc k]
  have:jh f k*c<f k*c↔jh f k<f k:=⟨fun h=>Int.lt_of_mul_lt_mul_right h (Int.le_of_lt hc),fun h=>Int.mul_lt_mul_of_pos_right h hc⟩
  by_cases h:jh f k<f k
  ·rw[if_pos h,if_pos (this.2 h)]
  ·rw[if_neg h,if_neg (fun h'=>h (this.1 h'))]
def nrm(A:Nat→Nat→Int)(n:Nat):Int:=jh (fun j=>qK (fun i=>((A i j).natAbs:Int)) n) n
theorem Yc(A:Nat→Nat→Int){n j:Nat}(hj:j<n):qK (fun i=>((A i j).natAbs:Int)) n≤nrm A n:=aer (fun j=>qK (fun i=>((A i j).natAbs:Int)) n) hj
theorem yq(A:Nat→Nat→Int)(n:Nat):0≤nrm A n:=QN _ _
theorem aJm{A B C:Nat→Nat→Int}{n:Nat}(h:∀i j,i<n→j<n→C i j=A i j+B i j):nrm C n≤nrm A n+nrm B n:=by
 have h1:=yq A n
 have h2:=yq B n
 refine Yh (by omega) fun j hj=>?_
 have h3:=Yc A hj
 have h4:=Yc B hj
 have h5:qK (fun i=>((C i j).natAbs:Int)) n≤qK (fun i=>((A i j).natAbs:Int)+((B i j).natAbs:Int)) n:=Q5 fun i hi=>by rw[h i j hi hj];omega
 rw[Zq]at h5
 omega
theorem aJl{A B C:Nat→Nat→Int}{n:Nat}(h:∀i j,i<n→j<n→C i j=qK (fun t=>A i t*B t j) n):nrm C n≤nrm A n*nrm B n:=by
 have h1:=yq A n
 have h2:=yq B n
 refine Yh (Int.mul_nonneg h1 h2) fun j hj=>?_
 have h4:=Yc B hj
 have h5:qK (fun i=>((C i j).natAbs:Int)) n≤qK (fun i=>qK (fun t=>((A i t).natAbs:Int)*((B t j).natAbs:Int)) n) n:=Q5 fun i hi=>by
  rw[h i j hi hj]
  refine Int.le_trans (Kn _ n) (Int.le_of_eq (jo fun t _=>?_))
  rw[Int.natAbs_mul,Int.natCast_mul]
 rw[Js]at h5
 have h6:qK (fun t=>qK (fun i=>((A i t).natAbs:Int)*((B t j).natAbs:Int)) n) n≤qK (fun t=>nrm A n*((B t j).natAbs:Int)) n:=Q5 fun t ht=>by
  rw[Qq]
  exact Int.mul_le_mul_of_nonneg_right (Yc A ht) (by omega)
 rw[Jr]at h6
 have h7:nrm A n*qK (fun t=>((B t j).natAbs:Int)) n≤nrm A n*nrm B n:=Int.mul_le_mul_of_nonneg_left h4 h1
 omega
theorem aou{A C:Nat→Nat→Int}{n:Nat}{c:Int}(hc:c≠0)(h:∀i j,i<n→j<n→C i j=A i j*c):nrm C n=nrm A n*(c.natAbs:Int):=by
 unfold nrm
 rw[←KH _ (by omega)]
 refine ZF fun j hj=>?_
 rw[←Qq]
 exact jo fun i hi=>by rw[h i j hi hj,Int.natAbs_mul,Int.natCast_mul]
end Go.Ab
namespace Go.Ab
open Go Go.Proofs
/-! ### What matrices tell-/
def mv(K:Nat)(L:List ExV)(n i j:Nat):Int:=(L.getD (i*n+j) ex0).val K
def eK(K:Nat)(L:List ExV):Prop:=∀x∈L, -(K:Int)≤x.e
theorem JF{K:Nat}{L:List ExV}{i:Nat}(h:eK K L)(hi:i<L.length): -(K:Int)≤(L.getD i ex0).e:=by
 rw[List.getD_eq_getElem?_getD,List.getElem?_eq_getElem hi]
 exact h _ (List.getElem_mem hi)
theorem matV.eK{n:Nat}{L:List ExV}(h:matV n L){K:Nat}(hK:3000≤K):eK K L:=fun x hx=>by have:=(jx (h.ok x hx)).1;omega
theorem adw(K:Nat):ex0.val K=0:=Qz
theorem aeN{K n:Nat}{L:List ExV}{j:Nat}(hK:eK K L)(hl:L.length=n*n)(hj:j<n):∀k,k≤n→(aau n L j k).val K=qK (fun i=>((mv K L n i j).natAbs:Int)) k∧ -(K:Int)≤(aau n L j k).e
 |0,_=>⟨adw K,by show-(K:Int)≤0;omega⟩
 |k+1,hk=>by
  obtain⟨h1,h2⟩:=aeN hK hl hj k (by omega)
  have h3:=JF hK (i:=k*n+j) (by rw[hl];exact zl (by omega) hj)
  rw[aai]
  refine⟨?_,aen h2 h3⟩
  rw[Q7 (y:=ExV.abs _) h2 h3,h1,aL6];rfl
theorem KB{K n:Nat}{L:List ExV}(hK:eK K L)(hl:L.length=n*n):∀k,k≤n→(q8 n L k).val K=jh (fun j=>qK (fun i=>((mv K L n i j).natAbs:Int)) n) k∧ -(K:Int)≤(q8 n L k).e
 |0,_=>⟨adw K,by show-(K:Int)≤0;omega⟩
 |k+1,hk=>by
  obtain⟨h1,h2⟩:=KB hK hl k (by omega)
  obtain⟨h3,h4⟩:=aeN hK hl (show k<n by omega) n (Nat.le_refl n)
  rw[Qs]
  show(yd (q8 n L k) (aau n L k n)).val K=_∧_≤(yd (q8 n L k) (aau n L k n)).e
  unfold yd
  rw[aLp h4 h2,h3,h1,jh]
  by_cases h:jh (fun j=>qK (fun i=>((mv K L n i j).natAbs:Int)) n) k<qK (fun i=>((mv K L n i k).natAbs:Int)) n
  ·rw[if_pos h,if_pos (by unfold zy;rw[if_neg (by omega),if_pos h];omega)]
   exact⟨h3,h4⟩
  ·rw[if_neg h,if_neg (by unfold zy;split<;>(try split)<;>omega)]
   exact⟨h1,h2⟩
theorem y7{K n:Nat}{L:List ExV}(h:matV n L)(hK:3000≤K)(hf:(q8 n L n).fit=true):(q8 n L n).tel.val K=nrm (mv K L n) n:=by
 obtain⟨h1,h2⟩:=KB (h.eK hK) h.len n (Nat.le_refl n)
 rw[J4 hf,Ja h2,h1];rfl
theorem aEc{n i j:Nat}(hj:j<n):(i*n+j)/n=i∧(i*n+j) % n=j:=by
 constructor
 ·rw[Nat.mul_comm,Nat.mul_add_div (by omega),Nat.div_eq_of_lt hj,Nat.add_zero]
 ·rw[Nat.mul_comm,Nat.mul_add_mod,Nat.mod_eq_of_lt hj]
theorem aY0{n:Nat}{g:Nat→Nat→ExV}{i j:Nat}(hi:i<n)(hj:j<n):(gl n g (n*n)).getD (i*n+j) ex0=g i j:=by
 rw[aOM (zl hi hj),(aEc hj).1,(aEc hj).2]
theorem aJQ{L:List ExV}{k:Nat}(hk:k<L.length):(L.map ExV.can).getD k ex0=(L.getD k ex0).can:=by
 rw[List.getD_eq_getElem?_getD,List.getElem?_eq_getElem (by rw[List.length_map];exact hk),List.getD_eq_getElem?_getD,List.getElem?_eq_getElem hk]
 simp
theorem aoF{K n:Nat}{g:Nat→Nat→ExV}{i j:Nat}(hi:i<n)(hj:j<n)(hK: -(K:Int)≤(g i j).e):mv K ((gl n g (n*n)).map ExV.can) n i j=(g i j).val K:=by
 unfold mv
 rw[aJQ (by rw[ja];exact zl hi hj),aY0 hi hj,Ja hK]
theorem aJK{K n:Nat}{L L':List ExV}{i j:Nat}(h:eK K L)(h':eK K L')(hl:L.length=n*n)(hl':L'.length=n*n)(hi:i<n)(hj:j<n):mv K ((j6 n L L').map ExV.can) n i j=mv K L n i j+mv K L' n i j:=by
 have a:=JF h (i:=i*n+j) (by rw[hl];exact zl hi hj)
 have b:=JF h' (i:=i*n+j) (by rw[hl'];exact zl hi hj)
 unfold j6
 rw[aoF hi hj (aen a b),Q7 a b];rfl
theorem aeH{K K' n:Nat}{L L':List ExV}{i j:Nat}(h:eK K L)(h':eK K' L')(hl:L.length=n*n)(hl':L'.length=n*n)(hi:i<n)(hj:j<n):∀k,k≤n→(YX n L L' i j k).val (K+K')=qK (fun t=>mv K L n i t*mv K' L' n t j) k∧ -((K+K':Nat):Int)≤(YX n L L' i j k).e
 |0,_=>⟨adw _,by show-((K+K':Nat):Int)≤0;omega⟩
 |k+1,hk=>by
  obtain⟨h1,h2⟩:=aeH h h' hl hl' hi hj k (by omega)
  have a:=JF h (i:=i*n+k) (by rw[hl];exact zl hi (by omega))
  have b:=JF h' (i:=k*n+j) (by rw[hl'];exact zl (by omega) hj)
  rw[KY]
  have c: -((K+K':Nat):Int)≤((L.getD (i*n+k) ex0).times (L'.getD (k*n+j) ex0)).e:=by show _≤(L.getD (i*n+k) ex0).e+(L'.getD (k*n+j) ex0).e;omega
  refine⟨?_,aen h2 c⟩
  rw[Q7 h2 c,h1,yU a b];rfl
theorem aBb{K K' n:Nat}{L L':List ExV}{i j:Nat}(h:eK K L)(h':eK K' L')(hl:L.length=n*n)(hl':L'.length=n*n)(hi:i<n)(hj:j<n):mv (K+K') ((zR n L L').map ExV.can) n i j=qK (fun t=>mv K L n i t*mv K' L' n t j) n:=by
 obtain⟨h1,h2⟩:=aeH h h' hl hl' hi hj n (Nat.le_refl n)
 unfold zR
 rw[aoF hi hj h2,h1]
theorem aoE{K K' n:Nat}{L:List ExV}{y:ExV}{i j:Nat}(h:eK K L)(hy: -(K':Int)≤y.e)(hl:L.length=n*n)(hi:i<n)(hj:j<n):mv (K+K') ((qY n L y).map ExV.can) n i j=mv K L n i j*y.val K':=by
 have a:=JF h (i:=i*n+j) (by rw[hl];exact zl hi hj)
 unfold qY
 rw[aoF hi hj (by show _≤(L.getD (i*n+j) ex0).e+y.e;omega),yU a hy];rfl
end Go.Ab
namespace Go.Ab
open Go Go.Proofs
def bea(l:List UInt8)(i h:Int):Ob:=.own 0 [.sl l.length (qk l),.v (.int .i64 i),.v (.int .i64 h)]
def YY(l:List UInt8)(Q:AV→Prop):AV→List Ob→List Ob→Prop:=fun r hs bs=>hs=[]∧Q r∧∃i h:Int,(0≤i∧i≤l.length)∧bs=[.own 0 [.sl l.length (qk l),.v (.int .i64 i),.v (.int .i64 h)]]
section
variable {P:Program}{N f c:Nat}{aa0 args:List AV}{hp:Nat→Ob}{K:KV}{Q:AV→Prop}{e:Nat→AV}{l:List UInt8}{i h:Int}
theorem qu{n:Nat}(hc:Con P f false (.pt 10000000 0::args) [.own 0 [.sl l.length (qk l),.v (.int .i64 i),.v (.int .i64 h)]] (YY l Q))
  (hk:∀(r:AV) (i' h':Int),(0≤i'∧i'≤l.length)→Q r→K (r.ren (rho c [n])) (upd hp n (.own 0 [.sl l.length (qk l),.v (.int .i64 i'),.v (.int .i64 h')])))
  (ha:aa0.map (snp (hpx false [n] hp) (idx [n]) 6)=args:=by simp(disch:=omega)only[go_sem]) (hn:hp n=.own 0 [.sl l.length (qk l),.v (.int .i64 i),.v (.int .i64 h)]:=by simp(disch:=omega)only[go_sem]):@Jn P f (.pt n 0::aa0) hp c ⟨K⟩:=by
 refine Qh false [n] hc (by rw[List.map_cons,ha];simp[snp,idx]) (by rw[ZH,hn];rfl) rfl (qR hn (by simp[AllL,AV.All])) (by intro m hm;rw[List.mem_singleton.1 hm];exact⟨_,List.mem_cons_self ..,rfl⟩) ?_
 rintro r hs bs ⟨rfl,hq,i',h',hi',rfl⟩-
 exact⟨⟨by simp,trivial,fun h=>by cases h⟩,hk r i' h' hi' hq⟩
theorem aEe{ks:List Nat}:∀{l:List AV},AllL (j7 []) l→leL [] ks l l
 | [],_=>trivial
 |a::r,h=>⟨⟨aoi a,h.1.mono fun _ h=>h.elim⟩,aEe h.2⟩
theorem qS{vs:List AV}(i h:Int)(hq:Q (zh vs))(hi:0≤i∧i≤l.length:=by omega)(hh:hp 10000000=.own 0 [.sl l.length (qk l),.v (.int .i64 i),.v (.int .i64 h)]:=by simp(disch:=omega)only[go_sem])
  (hl:AllL (j7 []) vs:=by simp(disch:=omega)only[go_sem]):@aEk N false 1 ⟨YY l Q⟩ ⟨e⟩ vs hp:=
 qg [] [] [.own 0 [.sl l.length (qk l),.v (.int .i64 i),.v (.int .i64 h)]] vs rfl (aEe hl) ⟨⟨hh.symm,by simp[Ob.men,AllL,AV.All],trivial⟩,trivial⟩ ⟨rfl,by simp,by simp⟩ (fun h=>by cases h) ⟨rfl,hq,i,h,hi,rfl⟩
end
def bbg(l:List UInt8)(xs:List Int)(Q:AV→Prop):AV→List Ob→List Ob→Prop:=fun r hs bs=>hs=[]∧Q r∧∃i h:Int,(0≤i∧i≤l.length)∧bs=[.own 0 [.sl l.length (qk l),.v (.int .i64 i),.v (.int .i64 h)],.own 1 (qb xs)]
section
variable {P:Program}{N f c:Nat}{aa0 args:List AV}{hp:Nat→Ob}{K:KV}{Q:AV→Prop}{e:Nat→AV}{l:List UInt8}{i h:Int}
theorem jR{n m k:Nat}{xs:List Int}(hc:Con P f false [.pt 10000000 0,.rf 10000001 0 xs.length] [.own 0 [.sl l.length (qk l),.v (.int .i64 i),.v (.int .i64 h)],.own 1 (qb xs)] (bbg l xs Q))
  (hk:∀(r:AV) (i' h':Int),(0≤i'∧i'≤l.length)→Q r→K (r.ren (rho c [n,m])) (upd (upd hp n (.own 0 [.sl l.length (qk l),.v (.int .i64 i'),.v (.int .i64 h')])) m (.own 1 (qb xs))))
  (hx:xs.length=k:=by rfl)
  (hn:hp n=.own 0 [.sl l.length (qk l),.v (.int .i64 i),.v (.int .i64 h)]:=by simp(disch:=omega)only[go_sem]) (hm:hp m=.own 1 (qb xs):=by simp(disch:=omega)only[go_sem];rfl)
  (hd:QM [n,m]=true:=by rfl):@Jn P f [.pt n 0,.rf m 0 k] hp c ⟨K⟩:=by
 have hnm:¬m=n:=by
  have:=(jK hd)
  simp only[List.nodup_cons,List.mem_singleton]at this
  exact fun h=>this.1 h.symm
 subst hx
 refine Qh false [n,m] hc (by simp[snp,idx,hnm]) (by rw[ZH,ZH,hn,hm];simp only[Ob.ren,Zy,ZH];rfl) hd (aBh hn (by simp[AllL,AV.All]) hm Zc) (by intro q hq;simp only[List.mem_cons,List.not_mem_nil,or_false]at hq;rcases hq with rfl|rfl<;>simp[AV.top]) ?_
 rintro r hs bs ⟨rfl,hq,i',h',hi',rfl⟩-
 refine⟨⟨by simp,trivial,fun h=>by cases h⟩,?_⟩
 have:=hk r i' h' hi' hq
 simp only[List.map_cons,List.map_nil,Ob.ren,Zy]
 exact this
end
section
variable (l:List UInt8)(hl:l.length≤9223372036854775807)(i h:Int)(hi:0≤i∧i≤l.length)
include hl hi
theorem jQ:Con Tryz.prog 207 false [.pt 10000000 0] [.own 0 [.sl l.length (qk l),.v (.int .i64 i),.v (.int .i64 h)]] (YY l fun r=>∃k:Int,(0≤k∧k≤255)∧r=.v (.int .i64 k)):=by
 refine Con.of_aw Tryz.func207 rfl Tryz.ntmps207 (by simp) (by simp) (by simp) (W.sound ?_)
 show @W Tryz.prog 58 ⟨_⟩ ⟨fun x σ=>@q7 _ _ _ ⟨_⟩ _ ⟨_⟩ x σ⟩ _ _
 simp(disch:=omega)only[go_sem]
 generalize IntKind.i64.wrap (IntKind.i64.wrap (h*6364136223846793005)+1442695040888963407)=h1
 refine qs rfl [⟨0,[],[]⟩,⟨1,[],[]⟩,⟨2,[],[]⟩,⟨3,[],[]⟩,⟨4,[],[]⟩,⟨5,[3],[]⟩,⟨6,[3],[]⟩,⟨7,[3],[]⟩,⟨8,[3],[]⟩,⟨9,[3],[]⟩,⟨10,[],[]⟩,⟨11,[],[]⟩,⟨12,[],[]⟩] (by kernel_rfl) ?_
 simp(disch:=omega)only[go_sem]
 generalize ba9 (h1.fdiv (2^min 33 64)) (h1.fdiv (2^min 45 64))=y
 have hy:0≤y % 256∧y % 256<256:=by omega
 generalize y % 256=x at*
 refine qs rfl [⟨0,[],[]⟩,⟨1,[],[]⟩,⟨2,[],[]⟩,⟨3,[],[]⟩,⟨4,[3],[]⟩,⟨5,[3],[]⟩,⟨6,[3],[]⟩,⟨7,[3],[]⟩,⟨8,[3],[]⟩,⟨9,[],[]⟩] (by kernel_rfl) ?_
 simp(disch:=omega)only[go_sem]
 refine qe (fun c1=>?_) (fun c1=>?_)
 ·simp(disch:=omega)only[go_sem,c1]
  refine qs rfl [⟨0,[],[]⟩,⟨1,[],[]⟩,⟨2,[],[]⟩,⟨3,[],[]⟩,⟨4,[],[]⟩,⟨5,[4],[]⟩,⟨6,[4],[]⟩,⟨7,[4],[]⟩,⟨8,[4],[]⟩,⟨9,[],[]⟩,⟨10,[],[]⟩,⟨11,[],[]⟩,⟨12,[],[]⟩,⟨13,[],[]⟩,⟨14,[],[]⟩] (by kernel_rfl) ?_
  simp(disch:=omega)only[go_sem]
  refine⟨by omega,by omega,?_⟩
  generalize IntKind.i64.wrap (x+IntKind.i64.wrap ((l.getD i.toNat 0).toNat:Int))=y2
  have hy2:0≤y2 % 256∧y2 % 256<256:=by omega
  refine qS (i+1) (h1) ⟨_,by omega,rfl⟩
 ·simp(disch:=omega)only[go_sem,c1]
  refine qS (i) (h1) ⟨_,by omega,rfl⟩
theorem qJ(n:Int)(hn:n≤2^62):Con Tryz.prog 130 false [.pt 10000000 0,.v (.int .i64 n)] [.own 0 [.sl l.length (qk l),.v (.int .i64 i),.v (.int .i64 h)]] (YY l fun r=>∃k:Int,(0≤k∧(0<n→k<n))∧r=.v (.int .i64 k)):=by
 refine Con.of_aw Tryz.func130 rfl Tryz.ntmps130 (by simp) (by simp) (by simp) (W.sound ?_)
 show @W Tryz.prog 37 ⟨_⟩ ⟨fun x σ=>@q7 _ _ _ ⟨_⟩ _ ⟨_⟩ x σ⟩ _ _
 simp(disch:=omega)only[go_sem]
 refine qe (fun c1=>?_) (fun c1=>?_)
 ·simp(disch:=omega)only[go_sem,c1]
  refine qS (i) (h) ⟨_,⟨by omega,fun h=>by omega⟩,rfl⟩
 ·simp(disch:=omega)only[go_sem,c1]
  refine qe (fun c2=>?_) (fun c2=>?_)
  ·simp(disch:=omega)only[go_sem,c2]
   refine qu (jQ l hl i h hi) ?_
   rintro r i1 h1 hi1 ⟨k1,hk1,rfl⟩
   simp(disch:=omega)only[go_sem]
   refine⟨by omega,?_⟩
   have hm:=Int.emod_nonneg k1 (show n≠0 by omega)
   have hm2:=Int.emod_lt_of_pos k1 (show 0<n by omega)
   refine qS (i1) (h1) ⟨_,⟨hm,fun _=>hm2⟩,rfl⟩
  ·simp(disch:=omega)only[go_sem,c2]
   refine qu (jQ l hl i h hi) ?_
   rintro r i1 h1 hi1 ⟨k1,hk1,rfl⟩
   simp(disch:=omega)only[go_sem]
   refine qu (jQ l hl i1 h1 hi1) ?_
   rintro r i2 h2 hi2 ⟨k2,hk2,rfl⟩
   simp(disch:=omega)only[go_sem]
   refine qu (jQ l hl i2 h2 hi2) ?_
   rintro r i3 h3 hi3 ⟨k3,hk3,rfl⟩
   simp(disch:=omega)only[go_sem]
   refine qu (jQ l hl i3 h3 hi3) ?_
   rintro r i4 h4 hi4 ⟨k4,hk4,rfl⟩
   simp(disch:=omega)only[go_sem]
   refine⟨by omega,?_⟩
   have hm:=Int.emod_nonneg (k1*16777216+k2*65536+k3*256+k4) (show n≠0 by omega)
   have hm2:=Int.emod_lt_of_pos (k1*16777216+k2*65536+k3*256+k4) (show 0<n by omega)
   refine qS (i4) (h4) ⟨_,⟨hm,fun _=>hm2⟩,rfl⟩
theorem qU(n:Int)(hn:n≤2^62):Con Tryz.prog 58 false [.pt 10000000 0,.v (.int .i64 n)] [.own 0 [.sl l.length (qk l),.v (.int .i64 i),.v (.int .i64 h)]] (YY l fun r=>∃b:Bool,r=.v (.bool b)):=by
 refine Con.of_aw Tryz.func58 rfl Tryz.ntmps58 (by simp) (by simp) (by simp) (W.sound ?_)
 show @W Tryz.prog 9 ⟨_⟩ ⟨fun x σ=>@q7 _ _ _ ⟨_⟩ _ ⟨_⟩ x σ⟩ _ _
 simp(disch:=omega)only[go_sem]
 refine qu (qJ l hl i h hi n hn) ?_
 rintro r i1 h1 hi1 ⟨k1,hk1,rfl⟩
 simp(disch:=omega)only[go_sem]
 refine qS (i1) (h1) ⟨_,rfl⟩
theorem zw(xs:List Int)(h0:0<xs.length)(h1:xs.length≤2^40):Con Tryz.prog 131 false [.pt 10000000 0,.rf 10000001 0 xs.length] [.own 0 [.sl l.length (qk l),.v (.int .i64 i),.v (.int .i64 h)],.own 1 (qb xs)] (bbg l xs fun r=>∃x∈xs,r=.v (.int .i64 x)):=by
 refine Con.of_aw Tryz.func131 rfl Tryz.ntmps131 (by simp) (by simp) (by simp) (W.sound ?_)
 show @W Tryz.prog 12 ⟨_⟩ ⟨fun x σ=>@q7 _ _ _ ⟨_⟩ _ ⟨_⟩ x σ⟩ _ _
 simp(disch:=omega)only[go_sem]
 refine qu (qJ l hl i h hi xs.length (by omega)) ?_
 rintro r i1 h1 hi1 ⟨k1,hk1,rfl⟩
 simp(disch:=omega)only[go_sem]
 obtain⟨n1,rfl⟩:=Int.eq_ofNat_of_zero_le hk1.1
 have hlt:n1<xs.length:=by have:=hk1.2 (by omega);omega
 simp(disch:=omega)only[go_sem]
 refine⟨by omega,by omega,?_⟩
 have hm:xs.getD n1 0∈xs:=by rw[List.getD_eq_getElem?_getD,List.getElem?_eq_getElem hlt];exact List.getElem_mem _
 refine qg [] [] [.own 0 [.sl l.length (qk l),.v (.int .i64 i1),.v (.int .i64 h1)],.own 1 (qb xs)] [.v (.int .i64 (xs.getD n1 0))] rfl (by simp(disch:=omega)only[go_sem]) (by simp(disch:=omega)only[go_sem]) (by simp) (by simp) ⟨rfl,⟨_,hm,rfl⟩,_,_,by omega,rfl⟩
end
end Go.Ab
namespace Go.Ab
open Go Go.Proofs
section
variable (l:List UInt8)(hl:l.length≤9223372036854775807)(i h:Int)(hi:0≤i∧i≤l.length)
include hl hi
theorem YI:Con Tryz.prog 292 false [.pt 10000000 0] [.own 0 [.sl l.length (qk l),.v (.int .i64 i),.v (.int .i64 h)]] (YY l fun r=>∃k:Int,(0≤k∧k≤100)∧r=.v (.int .i64 k)):=by
 refine Con.of_aw Tryz.func292 rfl Tryz.ntmps292 (by simp) (by simp) (by simp) (W.sound ?_)
 show @W Tryz.prog 10 ⟨_⟩ ⟨fun x σ=>@q7 _ _ _ ⟨_⟩ _ ⟨_⟩ x σ⟩ _ _
 simp(disch:=omega)only[go_sem]
 refine qu (qU l hl i h hi 12 (by omega)) ?_
 rintro r i1 h1 hi1 ⟨b,rfl⟩
 simp(disch:=omega)only[go_sem]
 cases b
 ·simp(disch:=omega)only[go_sem]
  refine qu (qJ l hl i1 h1 hi1 6 (by omega)) ?_
  rintro r i2 h2 hi2 ⟨k,hk,rfl⟩
  simp(disch:=omega)only[go_sem]
  have:=hk.2 (by omega)
  refine qS (i2) (h2) ⟨_,by omega,rfl⟩
 ·simp(disch:=omega)only[go_sem]
  refine jR (zw l hl i1 h1 hi1 [100,99,50,20] (by simp) (by simp)) ?_
  rintro r i2 h2 hi2 ⟨x,hx,rfl⟩
  have hx_b:0≤x∧x≤100:=by
   simp only[List.mem_cons,List.not_mem_nil,or_false]at hx
   omega
  clear hx
  simp(disch:=omega)only[go_sem]
  refine qS (i2) (h2) ⟨_,by omega,rfl⟩
theorem JR:Con Tryz.prog 264 false [.pt 10000000 0] [.own 0 [.sl l.length (qk l),.v (.int .i64 i),.v (.int .i64 h)]] (fun r hs bs=>(∃m:Nat,bl m≤1600∧aBa m r hs [])∧∃i h:Int,(0≤i∧i≤l.length)∧bs=[.own 0 [.sl l.length (qk l),.v (.int .i64 i),.v (.int .i64 h)]]):=by
 refine Con.of_aw Tryz.func264 rfl Tryz.ntmps264 (by simp) (by simp) (by simp) (W.sound ?_)
 show @W Tryz.prog 38 ⟨_⟩ ⟨fun x σ=>@q7 _ _ _ ⟨_⟩ _ ⟨_⟩ x σ⟩ _ _
 simp(disch:=omega)only[go_sem]
 refine qu (YI l hl i h hi) ?_
 rintro r i1 h1 hi1 ⟨k,hk,rfl⟩
 simp(disch:=omega)only[go_sem]
 refine qj (fun x:Nat×List Int×Int×Int=>[(0,.pt 10000000 0),(2,.pt 2 0),(3,.rf 1 0 x.2.1.length),(4,.v (.int .i64 k)),(5,.v (.int .i64 x.1))])
  (fun x=>[(1,.own 1 (qb x.2.1)),(2,.own 0 [.v (.slice none 0 0)]),(10000000,.own 0 [.sl l.length (qk l),.v (.int .i64 x.2.2.1),.v (.int .i64 x.2.2.2)])])
  (fun x=>x.1≤k.toNat∧x.2.1.length=x.1∧gd x.2.1∧(0≤x.2.2.1∧x.2.2.1≤l.length)) (fun x=>k.toNat-x.1) (0,[],i1,h1) ⟨by simp,rfl,by simp[gd],hi1⟩
  ((Le.ghost 3 1 1 (by simp(disch:=omega)only[go_sem]) (by simp(disch:=omega)only[go_sem])).trans (Le.lst [(2,40000000)] _ _ rfl (by simp(disch:=omega)only[go_sem]) (by simp(disch:=omega)only[go_sem]))) ?_
 rintro⟨j,xs,i2,h2⟩ ⟨hj,hxl,hg,hi2⟩
 dsimp only at hj hxl hg hi2 ⊢
 simp(disch:=omega)only[go_sem]
 refine qe (fun c1=>?_) (fun c1=>?_)
 ·simp(disch:=omega)only[go_sem,c1]
  refine qu (qJ l hl i2 h2 hi2 4 (by omega)) ?_
  rintro r i3 h3 hi3 ⟨q,hq,rfl⟩
  simp(disch:=omega)only[go_sem]
  by_cases q0:q=0
  ·simp(disch:=omega)only[go_sem,q0]
   exact⟨by omega,qc (j+1,xs++[65535],i3,h3) [(1,260000000)] ⟨by dsimp only;omega,by simp[hxl],qD.2 ⟨hg,by simp[gd]⟩,hi3⟩ (by show k.toNat-(j+1)<k.toNat-j;omega) rfl (by simp(disch:=omega)only[go_sem,List.length_append];try omega) (by simp(disch:=omega)only[go_sem])⟩
  by_cases q1:q=1
  ·simp(disch:=omega)only[go_sem,q0,q1]
   exact⟨by omega,qc (j+1,xs++[0],i3,h3) [(1,310000000)] ⟨by dsimp only;omega,by simp[hxl],qD.2 ⟨hg,by simp[gd]⟩,hi3⟩ (by show k.toNat-(j+1)<k.toNat-j;omega) rfl (by simp(disch:=omega)only[go_sem,List.length_append];try omega) (by simp(disch:=omega)only[go_sem])⟩
  simp(disch:=omega)only[go_sem,q0,q1]
  refine qu (qJ l hl i3 h3 hi3 65536 (by omega)) ?_
  rintro r i4 h4 hi4 ⟨d,hd,rfl⟩
  simp(disch:=omega)only[go_sem]
  have hd2:=hd.2 (by omega)
  exact⟨by omega,qc (j+1,xs++[d],i4,h4) [(1,210000000)] ⟨by dsimp only;omega,by simp[hxl],qD.2 ⟨hg,Qv.2 ⟨by omega,by simp[gd]⟩⟩,hi4⟩ (by show k.toNat-(j+1)<k.toNat-j;omega) rfl (by simp(disch:=omega)only[go_sem,List.length_append];try omega) (by simp(disch:=omega)only[go_sem])⟩
 ·simp(disch:=omega)only[go_sem,c1]
  refine qu (qU l hl i2 h2 hi2 4 (by omega)) ?_
  rintro r i3 h3 hi3 ⟨b,rfl⟩
  simp(disch:=omega)only[go_sem]
  cases b
  ·simp(disch:=omega)only[go_sem]
   have hv:vl xs=((vl xs).toNat:Int):=(Int.toNat_of_nonneg (qQ hg)).symm
   have hb:bl (vl xs).toNat≤1600:=by
    refine zx.2 ?_
    have h1:=Ql hg
    have h2:(65536:Int)^xs.length≤65536^100:=by
     rw[show(65536:Int)=((65536:Nat):Int) from rfl,←Int.natCast_pow,←Int.natCast_pow]
     exact Int.ofNat_le.2 (Nat.pow_le_pow_right (by omega) (by omega))
    have h3:(65536:Int)^100=((2^1600:Nat):Int):=by decide+kernel
    omega
   generalize (vl xs).toNat=m at*
   refine qA (jm true xs m (by omega) hg hv) (by simp(disch:=omega)only[go_sem]) ?_
   rintro r hs (⟨h0,rfl,rfl⟩|⟨zs,rfl,rfl⟩)
   ·refine⟨⟨by simp,by simp(disch:=omega)only[go_sem]⟩,?_⟩
    simp(disch:=omega)only[go_sem]
    refine qg [] [] [.own 0 [.sl l.length (qk l),.v (.int .i64 i3),.v (.int .i64 h3)]] [.ag [.v (.slice none 0 0)]] rfl (by simp(disch:=omega)only[go_sem]) (by simp(disch:=omega)only[go_sem]) (by simp) (by simp) ⟨⟨m,hb,.inl ⟨h0,rfl,rfl⟩⟩,_,_,hi3,rfl⟩
   ·refine⟨⟨by simp,by simp(disch:=omega)only[go_sem]⟩,?_⟩
    simp(disch:=omega)only[go_sem]
    refine qg [(0,390000000)] [.own 1 (qb (lim m++zs))] [.own 0 [.sl l.length (qk l),.v (.int .i64 i3),.v (.int .i64 h3)]] [.ag [.rf 0 0 (lim m).length]] rfl (by simp(disch:=omega)only[go_sem]) (by simp(disch:=omega)only[go_sem]) (by simp) (by simp) ⟨⟨m,hb,.inr ⟨zs,rfl,rfl⟩⟩,_,_,hi3,rfl⟩
  ·simp(disch:=omega)only[go_sem]
   refine jR (zw l hl i3 h3 hi3 [0,1,2,9,10,65535,65536,1099511627776,4611686018427387903,4611686018427387904] (by simp) (by simp)) ?_
   rintro r i4 h4 hi4 ⟨x,hx,rfl⟩
   have hx_b:0≤x∧x≤4611686018427387904:=by
    simp only[List.mem_cons,List.not_mem_nil,or_false]at hx
    omega
   clear hx
   simp(disch:=omega)only[go_sem]
   obtain⟨n,rfl⟩:=Int.eq_ofNat_of_zero_le hx_b.1
   have hb:bl n≤1600:=Nat.le_trans (show bl n≤63 from zx.2 (by omega)) (by omega)
   refine qA (YH true n (by omega)) (by simp(disch:=omega)only[go_sem]) ?_
   rintro r hs (⟨h0,rfl,rfl⟩|⟨zs,rfl,rfl⟩)
   ·refine⟨⟨by simp,by simp(disch:=omega)only[go_sem]⟩,?_⟩
    simp(disch:=omega)only[go_sem]
    refine qg [] [] [.own 0 [.sl l.length (qk l),.v (.int .i64 i4),.v (.int .i64 h4)]] [.ag [.v (.slice none 0 0)]] rfl (by simp(disch:=omega)only[go_sem]) (by simp(disch:=omega)only[go_sem]) (by simp) (by simp) ⟨⟨n,hb,.inl ⟨h0,rfl,rfl⟩⟩,_,_,hi4,rfl⟩
   ·refine⟨⟨by simp,by simp(disch:=omega)only[go_sem]⟩,?_⟩
    simp(disch:=omega)only[go_sem]
    refine qg [(0,370000000)] [.own 1 (qb (lim n++zs))] [.own 0 [.sl l.length (qk l),.v (.int .i64 i4),.v (.int .i64 h4)]] [.ag [.rf 0 0 (lim n).length]] rfl (by simp(disch:=omega)only[go_sem]) (by simp(disch:=omega)only[go_sem]) (by simp) (by simp) ⟨⟨n,hb,.inr ⟨zs,rfl,rfl⟩⟩,_,_,hi4,rfl⟩
end
end Go.Ab
namespace Go.Ab
open Go Go.Proofs
end Go.Ab
namespace Go.Ab
open Go Go.Proofs
end Go.Ab
namespace Go.Ab
open Go Go.Proofs
def awV(s:Bool)(m e:Int):FlV:=if m<9007199254740991 then⟨1,s,m+1,e⟩else if e<971 then⟨1,s,4503599627370496,e+1⟩else⟨2,s,0,0⟩
def toV(k:Int)(s:Bool)(m e:Int):FlV:=if k=2 then⟨1,s,9007199254740991,971⟩else if 4503599627370496<m∨(e= -1074∧1<m)then⟨k,s,m-1,e⟩else if-1074<e then⟨k,s,9007199254740991,e-1⟩else⟨0,s,0,0⟩
def nxV(k:Int)(s:Bool)(m e:Int):FlV:=if k=3∨(k=2∧s=false)then⟨k,s,m,e⟩else if k=0 then⟨1,false,1, -1074⟩else if s=true then toV k s m e else awV s m e
def ulE(k e:Int):Int:=if k=0 then-1074 else e
end Go.Ab
namespace Go.Ab
structure Adj(k:Int)(s:Bool)(m e:Int)(n:FlV)(t:Bool)(a:Nat)(E:Int):Prop where
 ha:a<2^53
 hf:2^52≤a∨E= -1074
 hE: -1074≤E∧E≤971
 ho:¬(a+1=2^53∧E=971)
 hu:E≤ulE k e
 lo:dv 1074 (xS k s) m.toNat e=dv 1074 t (if t=true then a+1 else a) E
 hi:dv 1074 (xS n.k n.s) n.m.toNat n.e=dv 1074 t (if t=true then a else a+1) E
theorem bdX:ngS 1 false=true:=rfl
theorem bdV:ngS 1 true=false:=rfl
theorem bdW:ngS 2 false=true:=rfl
end Go.Ab
namespace Go.Ab
open Go Go.Proofs
theorem apx{n:Nat}{e:Int}(hn:bl n≤1500)(he: -3000≤e∧e≤1400):zO n e=true:=by
 have q4:=ju (aot n)
 have l1:=qB (m:=oM n) (B:=1500) (by omega)
 have q5: -3000≤oE n e∧oE n e≤3000:=by
  unfold oE
  by_cases h:n=0
  ·rw[if_pos h];omega
  ·rw[if_neg h];have:=yl h;omega
 unfold zO jL
 simp only[Bool.and_eq_true,decide_eq_true_eq]
 omega
def bdg(ok:Bool):AV→List Ob→List Ob→Prop:=fun r hs bs=>hs=[]∧bs=[]∧∃(S:Bool) (M:Nat) (E:Int) (b:Bool),dyB S (lim M) E=true∧(ok=false→b=false)∧r=.tu [.ag [.v (.bool (S)),.sl (lim (M)).length (qb (lim (M))),.v (.int .i64 (E))],.v (.bool b)]
end Go.Ab
namespace Go.Ab
def ivM(s:Bool)(m:Nat)(e mode:Int):Nat:=roM s m e 0 mode*2^(roE m e 0).toNat
end Go.Ab
namespace Go.Ab
open Go Go.Proofs
end Go.Ab
namespace Go.Ab
open Go Go.Proofs
end Go.Ab
namespace Go.Ab
open Go Go.Proofs
end Go.Ab
namespace Go.Ab
open Go Go.Proofs
def bd5(k m:Int):Nat:=if k=1 then oM m.toNat else 0
def bd6(k m e:Int):Int:=if k=1 then oE m.toNat e else 0
def bd2(k:Int)(s:Bool)(m:Int):Bool:=if k=1 then oS (s&&decide (m.toNat≠0)) m.toNat else false
end Go.Ab
namespace Go.Ab
open Go Go.Proofs
def bdf:AV→List Ob→List Ob→Prop:=fun r hs bs=>hs=[]∧bs=[]∧∃x:FlV,r=.ag x.cs
section
variable (l:List UInt8)(hl:l.length≤9223372036854775807)(i h:Int)(hi:0≤i∧i≤l.length)
include hl hi
end
end Go.Ab
namespace Go.Ab
open Go Go.Proofs
section
variable (l:List UInt8)(hl:l.length≤9223372036854775807)(i h:Int)(hi:0≤i∧i≤l.length)
include hl hi
end
end Go.Ab
namespace Go.Ab
open Go
end Go.Ab
namespace Go.Ab
open Go Go.Proofs
end Go.Ab
namespace Go.Ab
open Go Go.Proofs
end Go.Ab
namespace Go.Ab
open Go Go.Proofs
section
variable (l:List UInt8)(hl:l.length≤9223372036854775807)(i h:Int)(hi:0≤i∧i≤l.length)
include hl hi
end
theorem ap9(l:List UInt8)(hl:l.length≤9223372036854775807):Con Tryz.prog 56 false [.sl l.length (qk l)] [] (fun r hs bs=>r=.pt 0 0∧bs=[]∧∃h:Int,hs=[.own 0 [.sl l.length (qk l),.v (.int .i64 0),.v (.int .i64 h)]]):=by
 refine Con.of_aw Tryz.func56 rfl Tryz.ntmps56 (by simp) (by simp) (by simp) (W.sound ?_)
 show @W Tryz.prog 32 ⟨_⟩ ⟨fun x σ=>@q7 _ _ _ ⟨_⟩ _ ⟨_⟩ x σ⟩ _ _
 simp(disch:=omega)only[go_sem]
 refine qj (fun x:Nat×Int=>[(0,.sl l.length (qk l)),(3,.v (.int .i64 x.2)),(4,.v (.int .i64 x.1))]) (fun _=>[]) (fun x=>x.1≤l.length) (fun x=>l.length-x.1) (0,IntKind.i64.wrap (38282+l.length)) (by simp)
  (Le.lst [] _ _ rfl (by simp(disch:=omega)only[go_sem]) (by simp(disch:=omega)only[go_sem])) ?_
 rintro⟨i,h⟩ hi
 dsimp only at hi ⊢
 have hfin:∀l':List AV,l'=[.pt 0 0]→(fun r hs bs=>r=.pt 0 0∧bs=[]∧∃h:Int,hs=[.own 0 [.sl l.length (qk l),.v (.int .i64 0),.v (.int .i64 h)]]:AV→List Ob→List Ob→Prop) (zh l') [.own 0 [.sl l.length (qk l),.v (.int .i64 0),.v (.int .i64 h)]] []:=fun l' e=>by subst e;exact⟨rfl,rfl,h,rfl⟩
 by_cases h1:(i:Int)<l.length
 ·by_cases h2:(i:Int)<4000
  ·simp(disch:=omega)only[go_sem,h1,h2]
   generalize IntKind.i64.wrap (IntKind.i64.wrap (IntKind.i64.wrap (h*131)+IntKind.i64.wrap ((l.getD i 0).toNat:Int))+7) % 1073741824=h'
   exact⟨⟨by omega,by omega⟩,by omega,qc (i+1,h') [] (by show i+1≤_;omega) (by show l.length-(i+1)<l.length-i;omega) rfl (by simp(disch:=omega)only[go_sem];try omega) (by simp(disch:=omega)only[go_sem])⟩
  ·simp(disch:=omega)only[go_sem,h1,h2]
   refine qg [(0,330000000)] [.own 0 [.sl l.length (qk l),.v (.int .i64 0),.v (.int .i64 h)]] [] [.pt 0 0] rfl (by simp(disch:=omega)only[go_sem]) (by simp(disch:=omega)only[go_sem]) (by simp) (by simp) (hfin _ rfl)
 ·simp(disch:=omega)only[go_sem,h1]
  refine qg [(0,330000000)] [.own 0 [.sl l.length (qk l),.v (.int .i64 0),.v (.int .i64 h)]] [] [.pt 0 0] rfl (by simp(disch:=omega)only[go_sem]) (by simp(disch:=omega)only[go_sem]) (by simp) (by simp) (hfin _ rfl)
end Go.Ab
namespace Go.Ab
open Go Go.Proofs
end Go.Ab
namespace Go.Ab
open Go Go.Proofs
end Go.Ab
namespace Go.Ab
open Go Go.Proofs
end Go.Ab
namespace Go.Ab
open Go Go.Proofs
end Go.Ab
namespace Go.Ab
open Go Go.Proofs
theorem Qk{s:Bool}{m:Nat}(h:(lim m).length≤100)(hs:m=0→s=false):zH s (lim m)=true:=by
 unfold zH
 rw[aoD m h,Bool.true_and]
 by_cases h0:m=0
 ·rw[hs h0];rfl
 ·have:=y8 h0
  rw[decide_eq_false (show ¬(lim m).length=0 by omega),Bool.and_false];rfl
end Go.Ab
namespace Go.Ab
open Go Go.Proofs
def aYC(r:AV)(hs:List Ob)(xs:List Int):Prop:=(xs=[]∧r=.ag [.v (.slice none 0 0)]∧hs=[])∨∃zs,r=.ag [.rf 0 0 xs.length]∧hs=[.own 1 (qb (xs++zs))]
section
variable (l:List UInt8)(hl:l.length≤9223372036854775807)(i h:Int)(hi:0≤i∧i≤l.length)
include hl hi
theorem adN:Con Tryz.prog 211 false [.pt 10000000 0] [.own 0 [.sl l.length (qk l),.v (.int .i64 i),.v (.int .i64 h)]] (fun r hs bs=>(∃xs:List Int,xs.length≤200∧aYC r hs xs)∧∃i h:Int,(0≤i∧i≤l.length)∧bs=[.own 0 [.sl l.length (qk l),.v (.int .i64 i),.v (.int .i64 h)]]):=by
 refine Con.of_aw Tryz.func211 rfl Tryz.ntmps211 (by simp) (by simp) (by simp) (W.sound ?_)
 show @W Tryz.prog 43 ⟨_⟩ ⟨fun x σ=>@q7 _ _ _ ⟨_⟩ _ ⟨_⟩ x σ⟩ _ _
 simp(disch:=omega)only[go_sem]
 refine Qh false [10000000] (JR l hl i h hi) (by simp(disch:=omega)only[go_sem]) (by simp(disch:=omega)only[go_sem]) rfl (qR (z:=0) (cs:=[.sl l.length (qk l),.v (.int .i64 i),.v (.int .i64 h)]) (by simp(disch:=omega)only[go_sem]) (by simp(disch:=omega)only[go_sem])) (by intro n hn;exact⟨_,List.mem_cons_self ..,by rw[List.mem_singleton.1 hn];rfl⟩) ?_
 rintro r hs bs ⟨⟨m,hb,(⟨h0,rfl,rfl⟩|⟨zs,rfl,rfl⟩)⟩,i1,h1,hi1,rfl⟩-
 ·refine⟨by simp[qM],?_⟩
  simp(disch:=omega)only[go_sem]
  refine qu (qU l hl i1 h1 hi1 9 (by omega)) ?_
  rintro r i2 h2 hi2 ⟨b,rfl⟩
  simp(disch:=omega)only[go_sem]
  cases b
  ·simp(disch:=omega)only[go_sem]
   refine qg [] [] [.own 0 [.sl l.length (qk l),.v (.int .i64 i2),.v (.int .i64 h2)]] [.ag [.v (.slice none 0 0)]] rfl (by simp(disch:=omega)only[go_sem]) (by simp(disch:=omega)only[go_sem]) (by simp) (by simp) ⟨⟨[],by simp,.inl ⟨rfl,rfl,rfl⟩⟩,_,_,hi2,rfl⟩
  ·simp(disch:=omega)only[go_sem]
   refine qu (qJ l hl i2 h2 hi2 4 (by omega)) ?_
   rintro r i3 h3 hi3 ⟨q,hq,rfl⟩
   simp(disch:=omega)only[go_sem]
   by_cases c0:q=0
   ·simp(disch:=omega)only[go_sem,c0]
    refine qg [(0,280000000)] [.own 1 (qb ([0]++[]))] [.own 0 [.sl l.length (qk l),.v (.int .i64 i3),.v (.int .i64 h3)]] [.ag [.rf 0 0 1]] rfl (by simp(disch:=omega)only[go_sem]) (by simp(disch:=omega)only[go_sem];rfl) (by simp) (by simp) ⟨⟨[0],by simp,.inr ⟨[],rfl,rfl⟩⟩,_,_,hi3,rfl⟩
   by_cases c1:q=1
   ·simp(disch:=omega)only[go_sem,c0,c1]
    refine qg [(0,350000000)] [.own 1 (qb ([-1]++[]))] [.own 0 [.sl l.length (qk l),.v (.int .i64 i3),.v (.int .i64 h3)]] [.ag [.rf 0 0 1]] rfl (by simp(disch:=omega)only[go_sem]) (by simp(disch:=omega)only[go_sem];rfl) (by simp) (by simp) ⟨⟨[-1],by simp,.inr ⟨[],rfl,rfl⟩⟩,_,_,hi3,rfl⟩
   by_cases c2:q=2
   ·simp(disch:=omega)only[go_sem,c0,c1,c2]
    refine qg [(0,420000000)] [.own 1 (qb ([65536]++[]))] [.own 0 [.sl l.length (qk l),.v (.int .i64 i3),.v (.int .i64 h3)]] [.ag [.rf 0 0 1]] rfl (by simp(disch:=omega)only[go_sem]) (by simp(disch:=omega)only[go_sem];rfl) (by simp) (by simp) ⟨⟨[65536],by simp,.inr ⟨[],rfl,rfl⟩⟩,_,_,hi3,rfl⟩
   simp(disch:=omega)only[go_sem,c0,c1,c2]
   refine qj (fun x:List Int×List Int=>[(2,.pt 4 0),(3,.pt 3 0)]) (fun x=>[(1,.own 1 (qb (x.1++x.2))),(3,.own 0 [.rf 1 0 x.1.length]),(4,.own 0 [.v (.slice none 0 0)]),(10000000,.own 0 [.sl l.length (qk l),.v (.int .i64 i3),.v (.int .i64 h3)])])
    (fun x=>x.1.length≤101) (fun x=>101-x.1.length) ([],[])
    (by simp) ((Le.ghostC 50000000 0 1 1 (zo:=0) (cs:=[.v (.slice none 0 0)]) (by simp(disch:=omega)only[go_sem]) rfl (by simp(disch:=omega)only[go_sem])).trans (Le.lst [(3,50000000),(4,40000000)] _ _ rfl (by simp(disch:=omega)only[go_sem]) (by simp(disch:=omega)only[go_sem,List.set_cons_zero]))) ?_
   rintro⟨xs,ys⟩ hx
   dsimp only at hx ⊢
   simp(disch:=omega)only[go_sem]
   refine qe (fun c3=>?_) (fun c3=>?_)
   ·simp(disch:=omega)only[go_sem,c3]
    exact⟨⟨by simp,by omega⟩,qc (xs++[1],[]) [(1,210000000)] (by simp;omega) (by simp;omega) rfl (by simp(disch:=omega)only[go_sem,List.length_append];try omega) (by simp(disch:=omega)only[go_sem,List.length_append,List.append_nil,List.take_left])⟩
   ·simp(disch:=omega)only[go_sem,c3]
    refine qg [(0,1)] [.own 1 (qb (xs++ys))] [.own 0 [.sl l.length (qk l),.v (.int .i64 i3),.v (.int .i64 h3)]] [.ag [.rf 0 0 xs.length]] rfl (by simp(disch:=omega)only[go_sem]) (by simp(disch:=omega)only[go_sem]) (by simp) (by simp) ⟨⟨xs,by omega,.inr ⟨ys,rfl,rfl⟩⟩,_,_,hi3,rfl⟩
 ·have hx:=qB (m:=m) (B:=1600) hb
  refine⟨by simp[qM];simp(disch:=omega)only[go_sem],?_⟩
  simp(disch:=omega)only[go_sem]
  refine qu (qU l hl i1 h1 hi1 9 (by omega)) ?_
  rintro r i2 h2 hi2 ⟨b,rfl⟩
  simp(disch:=omega)only[go_sem]
  cases b
  ·simp(disch:=omega)only[go_sem]
   refine qg [(0,70000000)] [.own 1 (qb (lim m++zs))] [.own 0 [.sl l.length (qk l),.v (.int .i64 i2),.v (.int .i64 h2)]] [.ag [.rf 0 0 (lim m).length]] rfl (by simp(disch:=omega)only[go_sem]) (by simp(disch:=omega)only[go_sem]) (by simp) (by simp) ⟨⟨lim m,by have:=qB (m:=m) (B:=1600) hb;omega,.inr ⟨zs,rfl,rfl⟩⟩,_,_,hi2,rfl⟩
  ·simp(disch:=omega)only[go_sem]
   refine qu (qJ l hl i2 h2 hi2 4 (by omega)) ?_
   rintro r i3 h3 hi3 ⟨q,hq,rfl⟩
   simp(disch:=omega)only[go_sem]
   by_cases c0:q=0
   ·simp(disch:=omega)only[go_sem,c0]
    exact⟨⟨by simp,by omega⟩,qg [(0,280000000)] [.own 1 (qb (lim m++[0]++[]))] [.own 0 [.sl l.length (qk l),.v (.int .i64 i3),.v (.int .i64 h3)]] [.ag [.rf 0 0 ((lim m).length+1)]] rfl (by simp(disch:=omega)only[go_sem]) (by simp(disch:=omega)only[go_sem,List.take_left',List.append_nil]) (by simp) (by simp) ⟨⟨lim m++[0],by simp;omega,.inr ⟨[],by rw[List.length_append];rfl,rfl⟩⟩,_,_,hi3,rfl⟩⟩
   by_cases c1:q=1
   ·simp(disch:=omega)only[go_sem,c0,c1]
    exact⟨⟨by simp,by omega⟩,qg [(0,350000000)] [.own 1 (qb (lim m++[-1]++[]))] [.own 0 [.sl l.length (qk l),.v (.int .i64 i3),.v (.int .i64 h3)]] [.ag [.rf 0 0 ((lim m).length+1)]] rfl (by simp(disch:=omega)only[go_sem]) (by simp(disch:=omega)only[go_sem,List.take_left',List.append_nil]) (by simp) (by simp) ⟨⟨lim m++[-1],by simp;omega,.inr ⟨[],by rw[List.length_append];rfl,rfl⟩⟩,_,_,hi3,rfl⟩⟩
   by_cases c2:q=2
   ·simp(disch:=omega)only[go_sem,c0,c1,c2]
    exact⟨⟨by simp,by omega⟩,qg [(0,420000000)] [.own 1 (qb (lim m++[65536]++[]))] [.own 0 [.sl l.length (qk l),.v (.int .i64 i3),.v (.int .i64 h3)]] [.ag [.rf 0 0 ((lim m).length+1)]] rfl (by simp(disch:=omega)only[go_sem]) (by simp(disch:=omega)only[go_sem,List.take_left',List.append_nil]) (by simp) (by simp) ⟨⟨lim m++[65536],by simp;omega,.inr ⟨[],by rw[List.length_append];rfl,rfl⟩⟩,_,_,hi3,rfl⟩⟩
   simp(disch:=omega)only[go_sem,c0,c1,c2]
   refine qj (fun x:List Int×List Int=>[(2,.pt 4 0),(3,.pt 3 0)]) (fun x=>[(1,.own 1 (qb (x.1++x.2))),(3,.own 0 [.rf 1 0 x.1.length]),(4,.own 0 [.v (.slice none 0 0)]),(10000000,.own 0 [.sl l.length (qk l),.v (.int .i64 i3),.v (.int .i64 h3)])])
    (fun x=>x.1.length≤101) (fun x=>101-x.1.length) (lim m,zs)
    (by show(lim m).length≤101;omega) (Le.lst [(3,50000000),(4,40000000),(1,70000000)] _ _ rfl (by simp(disch:=omega)only[go_sem]) (by simp(disch:=omega)only[go_sem])) ?_
   rintro⟨xs,ys⟩ hx
   dsimp only at hx ⊢
   simp(disch:=omega)only[go_sem]
   refine qe (fun c3=>?_) (fun c3=>?_)
   ·simp(disch:=omega)only[go_sem,c3]
    exact⟨⟨by simp,by omega⟩,qc (xs++[1],[]) [(1,210000000)] (by simp;omega) (by simp;omega) rfl (by simp(disch:=omega)only[go_sem,List.length_append];try omega) (by simp(disch:=omega)only[go_sem,List.length_append,List.append_nil,List.take_left])⟩
   ·simp(disch:=omega)only[go_sem,c3]
    refine qg [(0,1)] [.own 1 (qb (xs++ys))] [.own 0 [.sl l.length (qk l),.v (.int .i64 i3),.v (.int .i64 h3)]] [.ag [.rf 0 0 xs.length]] rfl (by simp(disch:=omega)only[go_sem]) (by simp(disch:=omega)only[go_sem]) (by simp) (by simp) ⟨⟨xs,by omega,.inr ⟨ys,rfl,rfl⟩⟩,_,_,hi3,rfl⟩
omit hi hl in
theorem Con.cur{f:Nat}{args:List AV}{Q:AV→List Ob→Prop}{Q':AV→Prop}(hc:Con Tryz.prog f false args [.own 0 [.sl l.length (qk l),.v (.int .i64 i),.v (.int .i64 h)]] (fun r hs bs=>Q r hs∧∃i h:Int,(0≤i∧i≤l.length)∧bs=[.own 0 [.sl l.length (qk l),.v (.int .i64 i),.v (.int .i64 h)]]))
  (hq:∀r hs,Q r hs→(∀ob∈hs,ob.men fun _=>False)∧Q' (qE (rhp hs []) 6 r)):Con Tryz.prog f false args [.own 0 [.sl l.length (qk l),.v (.int .i64 i),.v (.int .i64 h)]] (YY l Q'):=
 (Con.frzB hc (by
  rintro r hs bs ⟨h1,i,h, -,rfl⟩
  exact⟨by simp[Ob.men,AllL,AV.All],(hq r hs h1).1⟩)).mono fun r hs bs=>by
   rintro⟨rfl,r0,hs0,⟨h1,h2⟩,rfl⟩
   exact⟨rfl,(hq _ _ h1).2,h2⟩
omit hi hl in
theorem Con.curF{f:Nat}{args:List AV}{Q Q':AV→Prop}(hc:Con Tryz.prog f false args [.own 0 [.sl l.length (qk l),.v (.int .i64 i),.v (.int .i64 h)]] (YY l Q))(hq:∀r,Q r→Q' (qE (rhp [] []) 6 r)):
  Con Tryz.prog f false args [.own 0 [.sl l.length (qk l),.v (.int .i64 i),.v (.int .i64 h)]] (YY l Q'):=
 Con.cur l i h (Q:=fun r hs=>hs=[]∧Q r) (hc.mono fun r hs bs ⟨h1,h2,h3⟩=>⟨⟨h1,h2⟩,h3⟩) fun r hs ⟨h1,h2⟩=>by subst h1;exact⟨by simp,hq r h2⟩
omit hi hl in
theorem Q6{r:AV}{hs:List Ob}{xs:List Int}(h:aYC r hs xs):(∀ob∈hs,ob.men fun _=>False)∧qE (rhp hs []) 6 r=.ag [.sl xs.length (qb xs)]:=by
 rcases h with⟨rfl,rfl,rfl⟩|⟨zs,rfl,rfl⟩
 ·exact⟨by simp,rfl⟩
 ·refine⟨by intro ob ho;rw[List.mem_singleton.1 ho];exact Zc,?_⟩
  show AV.ag [qE _ 5 (.rf 0 0 xs.length)]=_
  rw[jT zd rfl]
theorem adL:Con Tryz.prog 264 false [.pt 10000000 0] [.own 0 [.sl l.length (qk l),.v (.int .i64 i),.v (.int .i64 h)]] (YY l fun r=>∃m:Nat,bl m≤1600∧r=.ag [.sl (lim (m)).length (qb (lim (m)))]):=
 Con.cur l i h (JR l hl i h hi) fun r hs ⟨m,hb,hr⟩=>by
  have:aYC r hs (lim m):=hr.elim (fun⟨h0,h1,h2⟩=>.inl ⟨by rw[h0,qm],h1,h2⟩) .inr
  exact⟨(Q6 this).1,m,hb,(Q6 this).2⟩
theorem ajn:Con Tryz.prog 211 false [.pt 10000000 0] [.own 0 [.sl l.length (qk l),.v (.int .i64 i),.v (.int .i64 h)]] (YY l fun r=>∃xs:List Int,xs.length≤200∧r=.ag [.sl xs.length (qb xs)]):=
 Con.cur l i h (adN l hl i h hi) fun r hs ⟨xs,hb,hr⟩=>⟨(Q6 hr).1,xs,hb,(Q6 hr).2⟩
theorem JN:Con Tryz.prog 210 false [.pt 10000000 0] [.own 0 [.sl l.length (qk l),.v (.int .i64 i),.v (.int .i64 h)]] (YY l fun r=>∃(s:Bool) (m:Nat),bl m≤1600∧r=.ag [.v (.bool (s&&decide (m≠0))),.sl (lim (m)).length (qb (lim (m)))]):=by
 refine Con.of_aw Tryz.func210 rfl Tryz.ntmps210 (by simp) (by simp) (by simp) (W.sound ?_)
 show @W Tryz.prog 8 ⟨_⟩ ⟨fun x σ=>@q7 _ _ _ ⟨_⟩ _ ⟨_⟩ x σ⟩ _ _
 simp(disch:=omega)only[go_sem]
 refine qu (qU l hl i h hi 2 (by omega)) ?_
 rintro r i1 h1 hi1 ⟨b,rfl⟩
 simp(disch:=omega)only[go_sem]
 refine qu (adL l hl i1 h1 hi1) ?_
 rintro r i2 h2 hi2 ⟨m,hm,rfl⟩
 simp(disch:=omega)only[go_sem]
 have hx:=qB (m:=m) (B:=1600) hm
 refine qa (zi b m (by omega)) ?_
 simp(disch:=omega)only[go_sem]
 refine qS (i2) (h2) ⟨b,m,hm,rfl⟩
theorem ajl:Con Tryz.prog 136 false [.pt 10000000 0] [.own 0 [.sl l.length (qk l),.v (.int .i64 i),.v (.int .i64 h)]] (YY l fun r=>∃(s:Bool) (xs:List Int),xs.length≤200∧r=.ag [.v (.bool s),.sl xs.length (qb xs)]):=by
 refine Con.curF (Q:=fun r=>∃(s:Bool) (xs:List Int),xs.length≤200∧(r=.ag [.v (.bool s),.sl xs.length (qb xs)]∨(xs=[]∧r=.ag [.v (.bool s),.v (.slice none 0 0)]))) l i h ?_ (fun r ⟨s,xs,h1,h2⟩=>⟨s,xs,h1,h2.elim (fun h=>by rw[h];rfl) fun⟨h,h'⟩=>by rw[h,h'];rfl⟩)
 refine Con.of_aw Tryz.func136 rfl Tryz.ntmps136 (by simp) (by simp) (by simp) (W.sound ?_)
 show @W Tryz.prog 15 ⟨_⟩ ⟨fun x σ=>@q7 _ _ _ ⟨_⟩ _ ⟨_⟩ x σ⟩ _ _
 simp(disch:=omega)only[go_sem]
 refine qu (JN l hl i h hi) ?_
 rintro r i1 h1 hi1 ⟨s,m,hm,rfl⟩
 simp(disch:=omega)only[go_sem]
 have hx:=qB (m:=m) (B:=1600) hm
 refine qu (qU l hl i1 h1 hi1 9 (by omega)) ?_
 rintro r i2 h2 hi2 ⟨b,rfl⟩
 simp(disch:=omega)only[go_sem]
 cases b
 ·simp(disch:=omega)only[go_sem]
  refine qS (i2) (h2) ⟨_,lim m,by omega,.inl rfl⟩
 ·simp(disch:=omega)only[go_sem]
  refine qu (qU l hl i2 h2 hi2 2 (by omega)) ?_
  rintro r i3 h3 hi3 ⟨b,rfl⟩
  simp(disch:=omega)only[go_sem]
  cases b
  ·simp(disch:=omega)only[go_sem]
   refine qu (ajn l hl i3 h3 hi3) ?_
   rintro r i4 h4 hi4 ⟨xs,hxs,rfl⟩
   simp(disch:=omega)only[go_sem]
   refine qS (i4) (h4) ⟨_,xs,hxs,.inl rfl⟩
  ·simp(disch:=omega)only[go_sem]
   refine qS (i3) (h3) ⟨true,[],by simp,.inr ⟨rfl,rfl⟩⟩
omit hi hl in
theorem Yz:AV.ag [.v (.bool false),.sl 0 [],.v (.int .i64 0)]=.ag [.v (.bool (ex0).s),.sl (lim (ex0).m).length (qb (lim (ex0).m)),.v (.int .i64 (ex0).e)]:=by
 show _=AV.ag [.v (.bool false),.sl (lim 0).length (qb (lim 0)),.v (.int .i64 0)]
 rw[qm];rfl
omit hi hl in
theorem yj(x:ExV)(h:zH x.s (lim x.m)=true)(he: -12000≤x.e∧x.e≤12000):Con Tryz.prog 72 false [.ag [.v (.bool (x.s)),.sl (lim (x.m)).length (qb (lim (x.m)))],.v (.int .i64 x.e)] [] (isA (.tu [.ag [.v (.bool (x.tel).s),.sl (lim (x.tel).m).length (qb (lim (x.tel).m)),.v (.int .i64 (x.tel).e)],.v (.bool x.fit)])):=by
 have c:=aah x.s x.m x.e h he
 rw[show zO x.m x.e=x.fit from rfl]at c
 unfold ExV.tel
 cases hf:x.fit<;>rw[hf]at c<;>exact c
omit hi hl in
theorem aJW{m:Nat}(h:bl m≤1600):(lim m).length≤100:=jC.2 (Nat.lt_of_lt_of_eq (zx.1 h) (by decide+kernel))
theorem JM:Con Tryz.prog 135 false [.pt 10000000 0] [.own 0 [.sl l.length (qk l),.v (.int .i64 i),.v (.int .i64 h)]] (YY l fun r=>∃x:ExV,x.ok=true∧r=.ag [.v (.bool (x).s),.sl (lim (x).m).length (qb (lim (x).m)),.v (.int .i64 (x).e)]):=by
 refine Con.curF (Q:=fun r=>∃x:ExV,x.ok=true∧qE (rhp [] []) 6 r=.ag [.v (.bool (x).s),.sl (lim (x).m).length (qb (lim (x).m)),.v (.int .i64 (x).e)]) l i h ?_ fun _ h=>h
 refine Con.of_aw Tryz.func135 rfl Tryz.ntmps135 (by simp) (by simp) (by simp) (W.sound ?_)
 show @W Tryz.prog 33 ⟨_⟩ ⟨fun x σ=>@q7 _ _ _ ⟨_⟩ _ ⟨_⟩ x σ⟩ _ _
 simp(disch:=omega)only[go_sem]
 refine qu (JN l hl i h hi) ?_
 rintro r i1 h1 hi1 ⟨s,m,hm,rfl⟩
 simp(disch:=omega)only[go_sem]
 have hx:=qB (m:=m) (B:=1600) hm
 refine qu (qU l hl i1 h1 hi1 3 (by omega)) ?_
 rintro r i2 h2 hi2 ⟨b,rfl⟩
 simp(disch:=omega)only[go_sem]
 have ww:∀(s:Bool) (m:Nat),bl m≤1600→zH (s&&decide (m≠0)) (lim m)=true:=fun s m hm=>Qk (aJW hm) (by intro h;simp[h])
 cases b
 ·simp(disch:=omega)only[go_sem]
  refine qu (qJ l hl i2 h2 hi2 24 (by omega)) ?_
  rintro r i3 h3 hi3 ⟨k,hk,rfl⟩
  simp(disch:=omega)only[go_sem]
  have hk2:=hk.2 (by omega)
  refine qu (qU l hl i3 h3 hi3 6 (by omega)) ?_
  rintro r i4 h4 hi4 ⟨b,rfl⟩
  simp(disch:=omega)only[go_sem]
  cases b
  ·simp(disch:=omega)only[go_sem]
   refine qa (yj ⟨s&&decide (m≠0),m,k-12⟩ (ww s m hm) (by show-12000≤k-12∧k-12≤12000;omega)) ?_
   simp(disch:=omega)only[go_sem]
   have ok:=j3 ⟨s&&decide (m≠0),m,k-12⟩
   generalize ExV.tel ⟨s&&decide (m≠0),m,k-12⟩=y at*
   cases hf:ExV.fit ⟨s&&decide (m≠0),m,k-12⟩
   ·simp(disch:=omega)only[go_sem,hf]
    refine qS (i4) (h4) ⟨ex0,JE,by simp(disch:=omega)only[go_sem];exact Yz⟩
   ·simp(disch:=omega)only[go_sem,hf]
    refine qS (i4) (h4) ⟨y,ok,by simp(disch:=omega)only[go_sem]⟩
  ·simp(disch:=omega)only[go_sem]
   refine jR (zw l hl i4 h4 hi4 [0, -60,60, -1074,900, -2990,2990, -100] (by simp) (by simp)) ?_
   rintro r i5 h5 hi5 ⟨x,hx,rfl⟩
   have hx_b: -3000≤x∧x≤3000:=by
    simp only[List.mem_cons,List.not_mem_nil,or_false]at hx
    omega
   clear hx
   simp(disch:=omega)only[go_sem]
   refine qa (yj ⟨s&&decide (m≠0),m,x⟩ (ww s m hm) (by show-12000≤x∧x≤12000;omega)) ?_
   simp(disch:=omega)only[go_sem]
   have ok:=j3 ⟨s&&decide (m≠0),m,x⟩
   generalize ExV.tel ⟨s&&decide (m≠0),m,x⟩=y at*
   cases hf:ExV.fit ⟨s&&decide (m≠0),m,x⟩
   ·simp(disch:=omega)only[go_sem,hf]
    refine qS (i5) (h5) ⟨ex0,JE,by simp(disch:=omega)only[go_sem];exact Yz⟩
   ·simp(disch:=omega)only[go_sem,hf]
    refine qS (i5) (h5) ⟨y,ok,by simp(disch:=omega)only[go_sem]⟩
 ·simp(disch:=omega)only[go_sem]
  refine qu (qJ l hl i2 h2 hi2 40 (by omega)) ?_
  rintro r i3 h3 hi3 ⟨q,hq,rfl⟩
  simp(disch:=omega)only[go_sem]
  have hq2:=hq.2 (by omega)
  refine qa (YG (q-20) (by omega)) ?_
  simp(disch:=omega)only[go_sem]
  have wq:zH (decide (q-20<0)) (lim (q-20).natAbs)=true:=Qk (by have:=qB (m:=(q-20).natAbs) (B:=6) (zx.2 (by omega));omega) (by intro h;simp;omega)
  refine qu (qJ l hl i3 h3 hi3 24 (by omega)) ?_
  rintro r i4 h4 hi4 ⟨k,hk,rfl⟩
  simp(disch:=omega)only[go_sem]
  have hk2:=hk.2 (by omega)
  refine qu (qU l hl i4 h4 hi4 6 (by omega)) ?_
  rintro r i5 h5 hi5 ⟨b,rfl⟩
  simp(disch:=omega)only[go_sem]
  cases b
  ·simp(disch:=omega)only[go_sem]
   refine qa (yj ⟨decide (q-20<0),(q-20).natAbs,k-12⟩ (wq) (by show-12000≤k-12∧k-12≤12000;omega)) ?_
   simp(disch:=omega)only[go_sem]
   have ok:=j3 ⟨decide (q-20<0),(q-20).natAbs,k-12⟩
   generalize ExV.tel ⟨decide (q-20<0),(q-20).natAbs,k-12⟩=y at*
   cases hf:ExV.fit ⟨decide (q-20<0),(q-20).natAbs,k-12⟩
   ·simp(disch:=omega)only[go_sem,hf]
    refine qS (i5) (h5) ⟨ex0,JE,by simp(disch:=omega)only[go_sem];exact Yz⟩
   ·simp(disch:=omega)only[go_sem,hf]
    refine qS (i5) (h5) ⟨y,ok,by simp(disch:=omega)only[go_sem]⟩
  ·simp(disch:=omega)only[go_sem]
   refine jR (zw l hl i5 h5 hi5 [0, -60,60, -1074,900, -2990,2990, -100] (by simp) (by simp)) ?_
   rintro r i6 h6 hi6 ⟨x,hx,rfl⟩
   have hx_b: -3000≤x∧x≤3000:=by
    simp only[List.mem_cons,List.not_mem_nil,or_false]at hx
    omega
   clear hx
   simp(disch:=omega)only[go_sem]
   refine qa (yj ⟨decide (q-20<0),(q-20).natAbs,x⟩ (wq) (by show-12000≤x∧x≤12000;omega)) ?_
   simp(disch:=omega)only[go_sem]
   have ok:=j3 ⟨decide (q-20<0),(q-20).natAbs,x⟩
   generalize ExV.tel ⟨decide (q-20<0),(q-20).natAbs,x⟩=y at*
   cases hf:ExV.fit ⟨decide (q-20<0),(q-20).natAbs,x⟩
   ·simp(disch:=omega)only[go_sem,hf]
    refine qS (i6) (h6) ⟨ex0,JE,by simp(disch:=omega)only[go_sem];exact Yz⟩
   ·simp(disch:=omega)only[go_sem,hf]
    refine qS (i6) (h6) ⟨y,ok,by simp(disch:=omega)only[go_sem]⟩
theorem ajk:Con Tryz.prog 57 false [.pt 10000000 0] [.own 0 [.sl l.length (qk l),.v (.int .i64 i),.v (.int .i64 h)]] (YY l fun r=>∃d:DyV,d.xs.length≤200∧r=.ag d.cs):=by
 refine Con.of_aw Tryz.func57 rfl Tryz.ntmps57 (by simp) (by simp) (by simp) (W.sound ?_)
 show @W Tryz.prog 28 ⟨_⟩ ⟨fun x σ=>@q7 _ _ _ ⟨_⟩ _ ⟨_⟩ x σ⟩ _ _
 simp(disch:=omega)only[go_sem]
 refine qu (JM l hl i h hi) ?_
 rintro r i1 h1 hi1 ⟨x,hx,rfl⟩
 simp(disch:=omega)only[go_sem]
 have lx:=(jx hx).2.2.1
 refine qu (qU l hl i1 h1 hi1 9 (by omega)) ?_
 rintro r i2 h2 hi2 ⟨b,rfl⟩
 simp(disch:=omega)only[go_sem]
 cases b
 ·simp(disch:=omega)only[go_sem]
  refine qS (i2) (h2) ⟨⟨x.s,lim x.m,x.e⟩,by show(lim x.m).length≤200;omega,rfl⟩
 ·simp(disch:=omega)only[go_sem]
  refine qu (qJ l hl i2 h2 hi2 3 (by omega)) ?_
  rintro r i3 h3 hi3 ⟨q,hq,rfl⟩
  simp(disch:=omega)only[go_sem]
  by_cases c0:q=0
  ·simp(disch:=omega)only[go_sem,c0]
   refine jR (zw l hl i3 h3 hi3 [-3001,3001,3000,4611686018427387904] (by simp) (by simp)) ?_
   rintro r i4 h4 hi4 ⟨y,hy,rfl⟩
   clear hy
   simp(disch:=omega)only[go_sem]
   refine qS (i4) (h4) ⟨⟨x.s,lim x.m,y⟩,by show(lim x.m).length≤200;omega,rfl⟩
  by_cases c1:q=1
  ·simp(disch:=omega)only[go_sem,c0,c1]
   refine qu (ajl l hl i3 h3 hi3) ?_
   rintro r i4 h4 hi4 ⟨s,xs,hxs,rfl⟩
   simp(disch:=omega)only[go_sem]
   refine qS (i4) (h4) ⟨⟨s,xs,x.e⟩,hxs,rfl⟩
  simp(disch:=omega)only[go_sem,c0,c1]
  refine qS (i3) (h3) ⟨⟨!x.s,lim x.m,x.e⟩,by show(lim x.m).length≤200;omega,rfl⟩
end
end Go.Ab
namespace Go.Ab
open Go
def z3:List AV:=[.v (.bool false),.v (.slice none 0 0),.v (.int .i64 0)]
def z6:List AV:=[.v (.bool false),.v (.slice none 0 0),.v (.int .i64 0),.v (.bool false),.v (.slice none 0 0),.v (.int .i64 0)]
section
variable {X:Type}{f:X→List AV}{z:Nat}{n:Nat}{zs:List AV}{ρ:Nat→Nat}{p:Nat→Prop}
theorem ad7(h:zJ ρ zs=zs):zJ ρ (zS n zs)=zS n zs:=by
 unfold zS
 induction n with
 |zero=>rfl
 |succ n ih=>
  rw[List.replicate_succ,List.flatten_cons]
  have:∀a b:List AV,zJ ρ (a++b)=zJ ρ a++zJ ρ b:=fun a b=>by simp[qP]
  rw[this,h,ih]
theorem ad8(h:AllL p zs):AllL p (zS n zs):=by
 unfold zS
 induction n with
 |zero=>simp[AllL]
 |succ n ih=>rw[List.replicate_succ,List.flatten_cons];exact AllL.append h ih
theorem aav:∀(ks a b:List AV) (o:Nat),o+ks.length≤a.length→wr (a++b) o ks=wr a o ks++b
 | [],a,b,o,_=>by simp[wr]
 |k::r,a,b,o,h=>by
  simp only[List.length_cons]at h
  rw[wr,wr,List.set_append_left _ _ (by omega),aav r]
  rw[List.length_set];omega
theorem aAu(hz:∀x,(f x).length=z){x y:X}{L:List X}:wr (qp f (x::L)) 0 (f y)=qp f (y::L):=by
 rw[zt,zt,aav _ _ _ _ (by rw[hz,hz];omega)]
 have:=Zi [] (f x) (f y) (by rw[hz,hz])
 rw[List.nil_append,List.nil_append]at this
 exact congrArg (· ++qp f L) this
theorem aAv(hz:∀x,(f x).length=z)(hs:zs.length=z){L:List X}{k:Nat}(x:X):wr (qp f L++zS (k+1) zs) (L.length*z) (f x)=qp f (L++[x])++zS k zs:=by
 unfold zS
 rw[List.replicate_succ,List.flatten_cons,←List.append_assoc]
 have h1:(qp f L++zs).length=(qp f L).length+z:=by simp[hs]
 have h2:=Zi (qp f L) zs (f x) (by rw[hz,hs])
 rw[yM hz]at h2
 rw[aav _ _ _ _ (by rw[h1,yM hz,hz];exact Nat.le_refl _),h2,←adb,zt,yL,List.append_nil]
theorem aCZ:zJ ρ (zS n z3)=zS n z3:=ad7 rfl
theorem aC0:AllL p (zS n z3)=True:=eq_true (ad8 (by simp[z3,AllL,AV.All]))
theorem ajQ:(zS n z3).length=n*3:=zk n z3
theorem aMt:zJ ρ (zS n z6)=zS n z6:=ad7 rfl
theorem aMv:AllL p (zS n z6)=True:=eq_true (ad8 (by simp[z6,AllL,AV.All]))
theorem aMu:(zS n z6).length=n*6:=zk n z6
theorem aMs:zS 0 zs=[]:=by simp[zS]
theorem aeA{L:List ExV}{k:Nat}{x:ExV}:wr (qp ExV.cs L++zS (k+1) z3) (L.length*3) [.v (.bool x.s),.sl (lim x.m).length (qb (lim x.m)),.v (.int .i64 x.e)]=qp ExV.cs (L++[x])++zS k z3:=aAv apo rfl x
theorem aB9{x:DyV}{L:List DyV}{s:Bool}{xs:List Int}{e:Int}:wr (qp DyV.cs (x::L)) 0 [.v (.bool s),.sl xs.length (qb xs),.v (.int .i64 e)]=qp DyV.cs (⟨s,xs,e⟩::L):=aAu aeF (y:=⟨s,xs,e⟩)
theorem aAD{a b:List AV}:zJ ρ (a++b)=zJ ρ a++zJ ρ b:=by simp[qP]
theorem aCQ{a b:List AV}:AllL p (a++b)=(AllL p a∧AllL p b):=propext ⟨fun h=>by
 induction a with
 |nil=>exact⟨by simp[AllL],h⟩
 |cons x r ih=>exact⟨⟨h.1,(ih h.2).1⟩,(ih h.2).2⟩,fun h=>AllL.append h.1 h.2⟩
end
attribute [go_sem] aCZ aC0 ajQ aMt aMv aMu aAD aCQ
end Go.Ab
namespace Go.Ab
open Go Go.Proofs
theorem apU(n:Nat)(hn:n≤4):Con Tryz.prog 280 false [.v (.int .i64 n)] [] (fun r hs bs=>r=.ag [.v (.int .i64 n),.rf 0 0 (n*n)]∧hs=[.own 3 (zS (n*n) z3)]):=by
 have hq:=yY hn
 have hz:((n:Int)*n).toNat=n*n:=by rw[←Int.natCast_mul];rfl
 have hz2:(n:Int)*n=((n*n:Nat):Int):=(Int.natCast_mul n n).symm
 refine Con.of_aw Tryz.func280 rfl Tryz.ntmps280 (by simp) (by simp) (by simp) (W.sound ?_)
 show @W Tryz.prog 9 ⟨_⟩ ⟨fun x σ=>@q7 _ _ _ ⟨_⟩ _ ⟨_⟩ x σ⟩ _ _
 simp(disch:=omega)only[go_sem]
 rw[hz]
 refine⟨by rw[hz2];omega,qg [(0,90000000)] [.own 3 (zS (n*n) z3)] [] [.ag [.v (.int .i64 n),.rf 0 0 (n*n)]] rfl (by simp(disch:=omega)only[go_sem]) (by simp(disch:=omega)only[go_sem,aCZ,aC0];rfl) (by simp) (by simp) ⟨rfl,rfl⟩⟩
section
variable (l:List UInt8)(hl:l.length≤9223372036854775807)(i h:Int)(hi:0≤i∧i≤l.length)
include hl hi
theorem adJ:Con Tryz.prog 281 false [.pt 10000000 0] [.own 0 [.sl l.length (qk l),.v (.int .i64 i),.v (.int .i64 h)]] (YY l fun r=>∃x:ExV,x.ok=true∧r=.ag [.v (.bool (x).s),.sl (lim (x).m).length (qb (lim (x).m)),.v (.int .i64 (x).e)]):=by
 refine Con.of_aw Tryz.func281 rfl Tryz.ntmps281 (by simp) (by simp) (by simp) (W.sound ?_)
 show @W Tryz.prog 11 ⟨_⟩ ⟨fun x σ=>@q7 _ _ _ ⟨_⟩ _ ⟨_⟩ x σ⟩ _ _
 simp(disch:=omega)only[go_sem]
 refine qu (qJ l hl i h hi 17 (by omega)) ?_
 rintro r i1 h1 hi1 ⟨k,hk,rfl⟩
 simp(disch:=omega)only[go_sem]
 have hk2:=hk.2 (by omega)
 refine qa (YG (k-8) (by omega)) ?_
 simp(disch:=omega)only[go_sem]
 refine qu (qJ l hl i1 h1 hi1 4 (by omega)) ?_
 rintro r i2 h2 hi2 ⟨q,hq,rfl⟩
 simp(disch:=omega)only[go_sem]
 have hq2:=hq.2 (by omega)
 have b6:bl (k-8).natAbs≤6:=zx.2 (by omega)
 have cf:=jP (decide (k-8<0)) (k-8).natAbs (0-q) (by omega) (by omega)
 have hf:(ExV.mk (decide (k-8<0)) (k-8).natAbs (0-q)).can.ok=true:=by
  rw[aLv]
  show zO (k-8).natAbs (0-q)=true
  exact apx (by omega) (by omega)
 have hc:ExV.mk (oS (decide (k-8<0)) (k-8).natAbs) (oM (k-8).natAbs) (oE (k-8).natAbs (0-q))=(ExV.mk (decide (k-8<0)) (k-8).natAbs (0-q)).can:=rfl
 rw[←hc]at hf
 generalize oS (decide (k-8<0)) (k-8).natAbs=S at*
 generalize oM (k-8).natAbs=M at*
 generalize oE (k-8).natAbs (0-q)=E at*
 refine qa (cf) ?_
 simp(disch:=omega)only[go_sem]
 refine qS (i2) (h2) ⟨⟨S,M,E⟩,hf,rfl⟩
theorem ajj(n:Nat)(hn:n≤4):Con Tryz.prog 237 false [.pt 10000000 0,.v (.int .i64 n)] [.own 0 [.sl l.length (qk l),.v (.int .i64 i),.v (.int .i64 h)]] (fun r hs bs=>(∃L:List ExV,L.length=n*n∧(∀x∈L,x.ok=true)∧r=.ag [.v (.int .i64 n),.rf 0 0 (n*n)]∧hs=[.own 3 (qp ExV.cs L)])∧∃i h:Int,(0≤i∧i≤l.length)∧bs=[.own 0 [.sl l.length (qk l),.v (.int .i64 i),.v (.int .i64 h)]]):=by
 have hq:=yY hn
 refine Con.of_aw Tryz.func237 rfl Tryz.ntmps237 (by simp) (by simp) (by simp) (W.sound ?_)
 show @W Tryz.prog 31 ⟨_⟩ ⟨fun x σ=>@q7 _ _ _ ⟨_⟩ _ ⟨_⟩ x σ⟩ _ _
 simp(disch:=omega)only[go_sem]
 refine qN (apU n hn) (by simp(disch:=omega)only[go_sem]) ?_
 rintro r hs ⟨rfl,rfl⟩
 refine⟨by simp[qM];simp(disch:=omega)only[go_sem],?_⟩
 simp(disch:=omega)only[go_sem]
 refine qj (fun x:List ExV×Int×Int=>[(0,.pt 10000000 0),(4,.pt 4 0),(5,.pt 5 0),(6,.v (.int .i64 x.1.length))])
  (fun x=>[(3,.own 3 (qp ExV.cs x.1++zS (n*n-x.1.length) z3)),(4,.own 0 [.v (.int .i64 0),.v (.slice none 0 0)]),(5,.own 0 [.v (.int .i64 n),.rf 3 0 (n*n)]),(10000000,.own 0 [.sl l.length (qk l),.v (.int .i64 x.2.1),.v (.int .i64 x.2.2)])])
  (fun x=>x.1.length≤n*n∧(∀y∈x.1,y.ok=true)∧(0≤x.2.1∧x.2.1≤l.length)) (fun x=>n*n-x.1.length) ([],i,h) ⟨by simp,by simp,hi⟩
  (Le.lst [(3,100000000),(4,60000000),(5,70000000)] _ _ rfl (by simp(disch:=omega)only[go_sem]) (by simp(disch:=omega)only[go_sem,ZT,List.nil_append];try rfl)) ?_
 rintro⟨L,i2,h2⟩ ⟨hL,hok,hi2⟩
 dsimp only at hL hok hi2 ⊢
 simp(disch:=omega)only[go_sem]
 refine qe (fun c1=>?_) (fun c1=>?_)
 ·obtain⟨k,hk⟩:∃k,n*n-L.length=k+1:=⟨n*n-L.length-1,by omega⟩
  rw[hk]
  simp(disch:=omega)only[go_sem,c1]
  refine qu (qU l hl i2 h2 hi2 25 (by omega)) ?_
  rintro r i3 h3 hi3 ⟨b,rfl⟩
  simp(disch:=omega)only[go_sem]
  cases b
  ·simp(disch:=omega)only[go_sem]
   refine qs rfl [⟨0,[],[]⟩,⟨1,[],[]⟩,⟨2,[1],[]⟩,⟨3,[1],[]⟩,⟨4,[1],[]⟩,⟨5,[],[]⟩,⟨6,[],[]⟩] (by kernel_rfl) ?_
   simp(disch:=omega)only[go_sem]
   refine qu (adJ l hl i3 h3 hi3) ?_
   rintro r i4 h4 hi4 ⟨x,hx,rfl⟩
   simp(disch:=omega)only[go_sem]
   have hl3:(L++[x]).length=L.length+1:=by simp
   rw[aeA]
   refine⟨by omega,by rw[List.length_append,Yy,ajQ];omega,qc (L++[x],i4,h4) [] ⟨by dsimp only;omega,fun y hy=>?_,hi4⟩ (by show n*n-(L++[x]).length<k+1;omega) rfl (by simp(disch:=omega)only[go_sem,hl3];try omega) (by simp(disch:=omega)only[go_sem,hl3,show n*n-(L.length+1)=k by omega])⟩
   rcases List.mem_append.1 hy with hy|hy
   ·exact hok y hy
   ·rw[List.mem_singleton.1 hy];exact hx
  ·simp(disch:=omega)only[go_sem]
   refine qs rfl [⟨0,[],[]⟩,⟨1,[],[]⟩,⟨2,[1],[]⟩,⟨3,[1],[]⟩,⟨4,[1],[]⟩,⟨5,[],[]⟩,⟨6,[],[]⟩] (by kernel_rfl) ?_
   simp(disch:=omega)only[go_sem]
   refine qu (JM l hl i3 h3 hi3) ?_
   rintro r i4 h4 hi4 ⟨x,hx,rfl⟩
   simp(disch:=omega)only[go_sem]
   have hl3:(L++[x]).length=L.length+1:=by simp
   rw[aeA]
   refine⟨by omega,by rw[List.length_append,Yy,ajQ];omega,qc (L++[x],i4,h4) [] ⟨by dsimp only;omega,fun y hy=>?_,hi4⟩ (by show n*n-(L++[x]).length<k+1;omega) rfl (by simp(disch:=omega)only[go_sem,hl3];try omega) (by simp(disch:=omega)only[go_sem,hl3,show n*n-(L.length+1)=k by omega])⟩
   rcases List.mem_append.1 hy with hy|hy
   ·exact hok y hy
   ·rw[List.mem_singleton.1 hy];exact hx
 ·obtain hLn:L.length=n*n:=by omega
  simp(disch:=omega)only[go_sem,c1]
  refine qg [(0,3)] [.own 3 (qp ExV.cs L)] [.own 0 [.sl l.length (qk l),.v (.int .i64 i2),.v (.int .i64 h2)]] [.ag [.v (.int .i64 n),.rf 0 0 (n*n)]] rfl (by simp(disch:=omega)only[go_sem]) (by simp(disch:=omega)only[go_sem,hLn,Nat.sub_self,aMs,List.append_nil]) (by simp) (by simp) ⟨⟨L,hLn,hok,rfl,rfl⟩,_,_,hi2,rfl⟩
theorem apV:Con Tryz.prog 159 false [.pt 10000000 0] [.own 0 [.sl l.length (qk l),.v (.int .i64 i),.v (.int .i64 h)]] (YY l fun r=>∃n:Nat,(1≤n∧n≤4)∧r=.v (.int .i64 n)):=by
 refine Con.of_aw Tryz.func159 rfl Tryz.ntmps159 (by simp) (by simp) (by simp) (W.sound ?_)
 show @W Tryz.prog 6 ⟨_⟩ ⟨fun x σ=>@q7 _ _ _ ⟨_⟩ _ ⟨_⟩ x σ⟩ _ _
 simp(disch:=omega)only[go_sem]
 refine qu (qJ l hl i h hi 4 (by omega)) ?_
 rintro r i1 h1 hi1 ⟨k,hk,rfl⟩
 simp(disch:=omega)only[go_sem]
 have hk2:=hk.2 (by omega)
 obtain⟨m,rfl⟩:=Int.eq_ofNat_of_zero_le hk.1
 refine qS (i1) (h1) ⟨m+1,by omega,by rw[show((m+1:Nat):Int)=1+(m:Int) by omega];rfl⟩
def aYU(r:AV):Prop:=∃(n:Int) (l:List DyV),l.length≤16∧(∀d∈l,d.xs.length≤200)∧r=.ag [.v (.int .i64 n),.sl l.length (qp DyV.cs l)]
omit hl hi in
theorem Yi{n:Int}{L:List DyV}{o k:Nat}(h1:L.length=o+k)(h2:L.length≤16)(h3:∀d∈L,d.xs.length≤200):aYU (qE (rhp [.own 3 (qp DyV.cs L)] []) 6 (.ag [.v (.int .i64 n),.rf 0 (o*3) k])):=by
 refine⟨n,(L.drop o).take k,?_,fun d hd=>h3 d (List.mem_of_mem_drop (List.mem_of_mem_take hd)),?_⟩
 ·rw[List.length_take,List.length_drop];omega
 ·have e:((L.drop o).take k).length=k:=by rw[List.length_take,List.length_drop];omega
  rw[e]
  show AV.ag [_,qE _ 5 (.rf 0 (o*3) k)]=_
  simp only[ac8,zd]
  rw[aof aeF,aeE]
  rfl
omit hl hi in
theorem aIz(L:List ExV):qp ExV.cs L=qp DyV.cs (L.map ExV.dy):=aD5 L
theorem QF(n:Nat)(hn:1≤n∧n≤4):Con Tryz.prog 160 false [.pt 10000000 0,.v (.int .i64 n)] [.own 0 [.sl l.length (qk l),.v (.int .i64 i),.v (.int .i64 h)]] (YY l aYU):=by
 have hq:=yY hn.2
 refine Con.cur l i h (Q:=fun r hs=>(∀ob∈hs,ob.men fun _=>False)∧aYU (qE (rhp hs []) 6 r)) ?_ fun _ _ h=>h
 refine Con.of_aw Tryz.func160 rfl Tryz.ntmps160 (by simp) (by simp) (by simp) (W.sound ?_)
 show @W Tryz.prog 33 ⟨_⟩ ⟨fun x σ=>@q7 _ _ _ ⟨_⟩ _ ⟨_⟩ x σ⟩ _ _
 simp(disch:=omega)only[go_sem]
 refine Qh false [10000000] (ajj l hl i h hi n hn.2) (by simp(disch:=omega)only[go_sem]) (by simp(disch:=omega)only[go_sem]) rfl (qR (z:=0) (cs:=[.sl l.length (qk l),.v (.int .i64 i),.v (.int .i64 h)]) (by simp(disch:=omega)only[go_sem]) (by simp(disch:=omega)only[go_sem])) (by intro n hn;exact⟨_,List.mem_cons_self ..,by rw[List.mem_singleton.1 hn];rfl⟩) ?_
 rintro r hs bs ⟨⟨L,hL,hok,rfl,rfl⟩,i1,h1,hi1,rfl⟩-
 refine⟨by simp[qM];simp(disch:=omega)only[go_sem],?_⟩
 simp(disch:=omega)only[go_sem]
 have h16:(L.map ExV.dy).length=n*n:=by rw[List.length_map];exact hL
 have h200:∀d∈L.map ExV.dy,d.xs.length≤200:=fun d hd=>by
  obtain⟨x,hx,rfl⟩:=List.mem_map.1 hd
  have:=(jx (hok x hx)).2.2.1
  show(lim x.m).length≤200
  omega
 rw[aIz]
 generalize L.map ExV.dy=M at*
 have hm:∀(M:List DyV),∀ob∈[Ob.own 3 (qp DyV.cs M)],ob.men fun _=>False:=fun M ob ho=>by rw[List.mem_singleton.1 ho];exact of_eq_true apv
 refine qu (qU l hl i1 h1 hi1 12 (by omega)) ?_
 rintro r i2 h2 hi2 ⟨b,rfl⟩
 simp(disch:=omega)only[go_sem]
 cases b
 ·simp(disch:=omega)only[go_sem]
  refine qg [(0,100000000)] [.own 3 (qp DyV.cs M)] [.own 0 [.sl l.length (qk l),.v (.int .i64 i2),.v (.int .i64 h2)]] [.ag [.v (.int .i64 n),.rf 0 (0*3) (n*n)]] rfl (by simp(disch:=omega)only[go_sem]) (by simp(disch:=omega)only[go_sem]) (by simp) (by simp) ⟨⟨hm M,Yi (o:=0) (by omega) (by omega) h200⟩,_,_,hi2,rfl⟩
 ·simp(disch:=omega)only[go_sem]
  refine qu (qJ l hl i2 h2 hi2 3 (by omega)) ?_
  rintro r i3 h3 hi3 ⟨q,hq,rfl⟩
  simp(disch:=omega)only[go_sem]
  by_cases c0:q=0
  ·simp(disch:=omega)only[go_sem,c0]
   refine jR (zw l hl i3 h3 hi3 [0,(n:Int)+1, -1] (by simp) (by simp)) ?_
   rintro r i4 h4 hi4 ⟨y,hy,rfl⟩
   clear hy
   simp(disch:=omega)only[go_sem]
   refine qg [(0,100000000)] [.own 3 (qp DyV.cs M)] [.own 0 [.sl l.length (qk l),.v (.int .i64 i4),.v (.int .i64 h4)]] [.ag [.v (.int .i64 y),.rf 0 (0*3) (n*n)]] rfl (by simp(disch:=omega)only[go_sem]) (by simp(disch:=omega)only[go_sem]) (by simp) (by simp) ⟨⟨hm M,Yi (o:=0) (by omega) (by omega) h200⟩,_,_,hi4,rfl⟩
  by_cases c1:q=1
  ·simp(disch:=omega)only[go_sem,c0,c1]
   have h1n:1≤n*n:=Nat.mul_le_mul hn.1 hn.1
   refine⟨by omega,?_⟩
   rw[show(((n*n:Nat):Int)-1).toNat=n*n-1 by omega]
   refine qg [(0,100000000)] [.own 3 (qp DyV.cs M)] [.own 0 [.sl l.length (qk l),.v (.int .i64 i3),.v (.int .i64 h3)]] [.ag [.v (.int .i64 n),.rf 0 (1*3) (n*n-1)]] rfl (by simp(disch:=omega)only[go_sem]) (by simp(disch:=omega)only[go_sem]) (by simp) (by simp) ⟨⟨hm M,Yi (o:=1) (by omega) (by omega) h200⟩,_,_,hi3,rfl⟩
  simp(disch:=omega)only[go_sem,c0,c1]
  refine qs rfl [⟨0,[],[]⟩,⟨1,[],[]⟩,⟨2,[1],[]⟩,⟨3,[1],[]⟩,⟨4,[],[]⟩,⟨5,[],[]⟩] (by kernel_rfl) ?_
  simp(disch:=omega)only[go_sem]
  have h1n:1≤n*n:=Nat.mul_le_mul hn.1 hn.1
  obtain⟨d0,M,rfl⟩:∃d0 M',M=d0::M':=by
   cases M with
   |nil=>simp at h16;omega
   |cons d M=>exact⟨d,M,rfl⟩
  refine qu (ajk l hl i3 h3 hi3) ?_
  rintro r i4 h4 hi4 ⟨⟨S,xs,E⟩,hd,hr⟩
  obtain rfl:r=.ag [.v (.bool S),.sl xs.length (qb xs),.v (.int .i64 E)]:=hr
  dsimp only at hd
  simp(disch:=omega)only[go_sem,aB9]
  refine⟨by omega,by omega,qg [(0,100000000)] [.own 3 (qp DyV.cs (⟨S,xs,E⟩::M))] [.own 0 [.sl l.length (qk l),.v (.int .i64 i4),.v (.int .i64 h4)]] [.ag [.v (.int .i64 n),.rf 0 (0*3) (n*n)]] rfl (by simp(disch:=omega)only[go_sem]) (by simp(disch:=omega)only[go_sem]) (by simp) (by simp) ⟨⟨hm _,Yi (o:=0) (by simp at h16 ⊢;omega) (by simp at h16 ⊢;omega) (fun d hd'=>?_)⟩,_,_,hi4,rfl⟩⟩
  rcases List.mem_cons.1 hd' with rfl|hd'
  ·exact hd
  ·exact h200 d (List.mem_cons_of_mem _ hd')
end
theorem aji(l:List UInt8)(hl:l.length≤9223372036854775807):Con Tryz.prog 75 false [.sl l.length (qk l)] [] (fun r hs bs=>hs=[]∧bs=[]∧∃(n n':Int) (L L':List DyV),(L.length≤16∧∀d∈L,d.xs.length≤200)∧(L'.length≤16∧∀d∈L',d.xs.length≤200)∧r=.tu [.ag [.v (.int .i64 n),.sl L.length (qp DyV.cs L)],.ag [.v (.int .i64 n'),.sl L'.length (qp DyV.cs L')]]):=by
 refine Con.of_aw Tryz.func75 rfl Tryz.ntmps75 (by simp) (by simp) (by simp) (W.sound ?_)
 show @W Tryz.prog 22 ⟨_⟩ ⟨fun x σ=>@q7 _ _ _ ⟨_⟩ _ ⟨_⟩ x σ⟩ _ _
 simp(disch:=omega)only[go_sem]
 refine qN (ap9 l hl) (by simp(disch:=omega)only[go_sem]) ?_
 rintro r hs ⟨rfl, -,⟨h,rfl⟩⟩
 refine⟨by simp(disch:=omega)only[go_sem],?_⟩
 simp(disch:=omega)only[go_sem]
 refine qu (apV l hl 0 h (by omega)) ?_
 rintro r i1 h1 hi1 ⟨n,hn,rfl⟩
 simp(disch:=omega)only[go_sem]
 refine qu (QF l hl i1 h1 hi1 n hn) ?_
 rintro r i2 h2 hi2 ⟨k,L,hL1,hL2,rfl⟩
 simp(disch:=omega)only[go_sem]
 refine qu (qU l hl i2 h2 hi2 12 (by omega)) ?_
 rintro r i3 h3 hi3 ⟨b,rfl⟩
 simp(disch:=omega)only[go_sem]
 cases b
 ·simp(disch:=omega)only[go_sem]
  refine qs rfl [⟨0,[],[]⟩,⟨1,[0],[]⟩,⟨2,[0],[]⟩,⟨3,[0],[]⟩,⟨4,[],[]⟩,⟨5,[],[]⟩] (by kernel_rfl) ?_
  simp(disch:=omega)only[go_sem]
  refine qu (QF l hl i3 h3 hi3 n hn) ?_
  rintro r i4 h4 hi4 ⟨k',L',hM1,hM2,rfl⟩
  simp(disch:=omega)only[go_sem]
  exact qL (by simp(disch:=omega)only[go_sem]) ⟨rfl,rfl,k,k',L,L',⟨hL1,hL2⟩,⟨hM1,hM2⟩,rfl⟩
 ·simp(disch:=omega)only[go_sem]
  refine qu (apV l hl i3 h3 hi3) ?_
  rintro r i4 h4 hi4 ⟨m,hm,rfl⟩
  simp(disch:=omega)only[go_sem]
  refine qs rfl [⟨0,[],[]⟩,⟨1,[0],[]⟩,⟨2,[0],[]⟩,⟨3,[0],[]⟩,⟨4,[],[]⟩,⟨5,[],[]⟩] (by kernel_rfl) ?_
  simp(disch:=omega)only[go_sem]
  refine qu (QF l hl i4 h4 hi4 m hm) ?_
  rintro r i5 h5 hi5 ⟨k',L',hM1,hM2,rfl⟩
  simp(disch:=omega)only[go_sem]
  exact qL (by simp(disch:=omega)only[go_sem]) ⟨rfl,rfl,k,k',L,L',⟨hL1,hL2⟩,⟨hM1,hM2⟩,rfl⟩
end Go.Ab
namespace Go.Ab
open Go Go.Proofs
def bdv(x y:ExV):ExV:=if x.val 3000≤y.val 3000 then x else y
def bdr(x y:ExV):ExV:=if y.val 3000≤x.val 3000 then x else y
section
variable (l:List UInt8)(hl:l.length≤9223372036854775807)(i h:Int)(hi:0≤i∧i≤l.length)
include hl hi
end
end Go.Ab
namespace Go.Ab
open Go Go.Proofs
/-! ### Rounding down and up-/
def rnF(s:Bool)(a b:Nat)(low mode:Int):FlV:=⟨flK s mode (rq s a b mode) low,s,baF s mode (rq s a b mode) low,baG s mode (rq s a b mode) low⟩
def upQ(a b:Nat):Nat:=if a % b=0 then a/b else a/b+1
def isN(F:FlV):Bool:=decide (F.k=0)||decide (F.k=1)
def rqB(s:Bool)(a b:Nat)(low mode:Int):Prop:=rq s a b mode≠0∧1024<(bl (rq s a b mode):Int)+low
end Go.Ab
namespace Go.Ab
def stk(A B:Nat):Nat:=2*(A/B)+(if A % B=0 then 0 else 1)
end Go.Ab
namespace Go.Ab
def rtB(a:Nat):Nat→Nat
 |0=>0
 |n+1=>if(n+1)*(n+1)≤a then n+1 else rtB a n
def rt(a:Nat):Nat:=rtB a a
end Go.Ab
namespace Go.Ab
open Go Go.Proofs
end Go.Ab
namespace Go.Ab
open Go Go.Proofs
/-! ### A root,rounded-/
def stR(A S:Nat):Nat:=rt (A/S)*4+(if rt (A/S)*rt (A/S)*S=A then 0 else if A*4<(2*rt (A/S)+1)*(2*rt (A/S)+1)*S then 1 else if A*4=(2*rt (A/S)+1)*(2*rt (A/S)+1)*S then 2 else 3)
end Go.Ab
namespace Go.Ab
open Go Go.Proofs
def sqT(m:Nat)(e:Int):Int:=((bl m:Int)+e+1)/2
def sqL(m:Nat)(e:Int):Int:=ZQ (sqT m e)
def sqA(m:Nat)(e low:Int):Nat:=stR (ovA m (e-2*low)) (2^(-(e-2*low)).toNat)
def sqV(k:Int)(s:Bool)(m e mode:Int):FlV:=
 if k=3∨k=0 then⟨k,s,m,e⟩else if s=true then⟨3,false,0,0⟩else if k=2 then⟨k,s,m,e⟩else
  ⟨flK false mode (rq false (sqA m.toNat e (sqL m.toNat e)) 4 mode) (sqL m.toNat e),false,baF false mode (rq false (sqA m.toNat e (sqL m.toNat e)) 4 mode) (sqL m.toNat e),baG false mode (rq false (sqA m.toNat e (sqL m.toNat e)) 4 mode) (sqL m.toNat e)⟩
def sqG(k:Int)(s:Bool)(m e mode:Int):Int:=
 if k=3∨k=0 then 0 else if s=true then 16 else if k=2 then 0 else
  bbf (sqT m.toNat e) (decide (sqA m.toNat e (sqL m.toNat e) % 4=0)) (rq false (sqA m.toNat e (sqL m.toNat e)) 4 mode) (sqL m.toNat e)
end Go.Ab
namespace Go.Ab
open Go Go.Proofs
def rtE(x:ExV)(low md:Int):ExV:=⟨false,rq false (sqA x.m x.e low) 4 md,low⟩
def bd0(n:Int):Bool:=decide (-3000≤n)&&decide (n≤3000)
theorem aMz(j:Nat){x y:ExV}(hx:x.ok=true)(hy:y.ok=true):(x.val 3000≤y.val 3000↔x.val (3000+j)≤y.val (3000+j))∧(x.val 3000<y.val 3000↔x.val (3000+j)<y.val (3000+j))∧(x.val 3000=y.val 3000↔x.val (3000+j)=y.val (3000+j)):=by
 have a:=(jx hx).1
 have b:=(jx hy).1
 rw[aC2 (by omega),aC2 (by omega)]
 have hp:(0:Int)<2^j:=Int.pow_pos (by omega)
 generalize (2:Int)^j=p at*
 refine⟨⟨fun h=>Int.mul_le_mul_of_nonneg_right h (Int.le_of_lt hp),fun h=>Int.le_of_mul_le_mul_right h hp⟩,⟨fun h=>Int.mul_lt_mul_of_pos_right h hp,fun h=>Int.lt_of_mul_lt_mul_right h (Int.le_of_lt hp)⟩,⟨fun h=>by rw[h],fun h=>Int.eq_of_mul_eq_mul_right (by omega) h⟩⟩
end Go.Ab
namespace Go.Ab
open Go Go.Proofs
theorem aqg(n e:Int)(hn: -9223372036854775808≤n∧n<9223372036854775808)(he: -12000≤e∧e≤12000):Con Tryz.prog 17 false [.v (.int .i64 n),.v (.int .i64 e)] [] (isA (.ag [.v (.bool ((ExV.mk (decide (n<0)) n.natAbs e).tel).s),.sl (lim ((ExV.mk (decide (n<0)) n.natAbs e).tel).m).length (qb (lim ((ExV.mk (decide (n<0)) n.natAbs e).tel).m)),.v (.int .i64 ((ExV.mk (decide (n<0)) n.natAbs e).tel).e)])):=by
 refine Con.frzA ?_
 have hw:zH (decide (n<0)) (lim n.natAbs)=true:=Qk (by
  have:=qB (m:=n.natAbs) (B:=64) (zx.2 (by omega));omega) (by intro h;simp;omega)
 have c:=yj ⟨decide (n<0),n.natAbs,e⟩ hw he
 generalize ExV.tel ⟨decide (n<0),n.natAbs,e⟩=y at*
 generalize ExV.fit ⟨decide (n<0),n.natAbs,e⟩=b at*
 refine Con.of_w (rs:=[.cell 4 29]) Tryz.func17 rfl Tryz.ntmps17 rfl ?_
 simp(disch:=omega)only[go_sem]
 refine qa (QS n hn) ?_
 simp(disch:=omega)only[go_sem]
 refine qa (c) ?_
 simp(disch:=omega)only[go_sem]
 exact qi
end Go.Ab
namespace Go.Ab
open Go Go.Proofs
def bbb(M:List DyV):Prop:=M.length≤16∧∀d∈M,d.xs.length≤200
theorem Jm(l:List UInt8)(hl:l.length≤9223372036854775807):Con Tryz.prog 19 false [.sl l.length (qk l)] [] (fun r hs bs=>hs=[]∧bs=[]∧∃(n n':Int) (L L':List DyV),bbb L∧bbb L'∧r=.tu [.ag [.v (.int .i64 n),.sl L.length (qp DyV.cs L)],.ag [.v (.int .i64 n'),.sl L'.length (qp DyV.cs L')]]):=by
 refine Con.of_aw Tryz.func19 rfl Tryz.ntmps19 (by simp) (by simp) (by simp) (W.sound ?_)
 show @W Tryz.prog 8 ⟨_⟩ ⟨fun x σ=>@q7 _ _ _ ⟨_⟩ _ ⟨_⟩ x σ⟩ _ _
 simp(disch:=omega)only[go_sem]
 refine qN (aji l hl) (by simp(disch:=omega)only[go_sem]) ?_
 rintro r hs ⟨rfl, -,⟨n,n',L,L',h1,h2,rfl⟩⟩
 refine⟨by simp(disch:=omega)only[go_sem],?_⟩
 simp(disch:=omega)only[go_sem]
 exact qL (by simp(disch:=omega)only[go_sem]) ⟨rfl,rfl,n,n',L,L',h1,h2,rfl⟩
theorem yi(n:Nat)(l:List ExV)(h1:1≤n)(h4:n≤4)(hl:l.length=n*n):Con Tryz.prog 20 false [.ag [.v (.int .i64 (gN n l)),.sl (gT l).length (qp ExV.cs (gT l))]] []
  (fun r hs bs=>hs=[]∧bs=[]∧∃(z:ExV) (b:Bool),z.ok=true∧(b=true→l.all ExV.fit=true∧(q8 n (l.map ExV.can) n).fit=true∧z=(q8 n (l.map ExV.can) n).tel)∧r=.tu [.ag [.v (.bool (z).s),.sl (lim (z).m).length (qb (lim (z).m)),.v (.int .i64 (z).e)],.v (.bool b)]):=by
 cases hf:l.all ExV.fit
 ·have e1:gN n l=0:=if_neg (by rw[hf];simp)
  have e2:gT l=[]:=if_neg (by rw[hf];simp)
  rw[e1,e2]
  exact(zD 0 [] (by simp) (by simp) (by rfl)).mono fun r hs bs ⟨a,b,c⟩=>⟨b,c,ex0,false,JE,(fun h=>by cases h),a⟩
 ·obtain⟨e1,e2,e3⟩:=aBu (l:=l) h1 h4 hl hf
  rw[e1,e2]
  exact(zK n _ e3).mono fun r hs bs ⟨a,b,c⟩=>⟨b,c,_,_,j3 _,fun h=>⟨rfl,h,rfl⟩,a⟩
set_option maxRecDepth 100000 in
set_option maxHeartbeats 4000000 in
theorem KL(l:List UInt8)(hl:l.length≤9223372036854775807):Con Tryz.prog 4 true [.sl l.length (qk l)] [] (isA (.v (.bool true))):=by
 refine Con.of_w (rs:=[.tmp 2]) Tryz.func4 rfl Tryz.ntmps4 rfl ?_
 simp(disch:=omega)only[go_sem]
 refine qN (Jm l hl) (by simp(disch:=omega)only[go_sem]) ?_
 rintro r hs ⟨rfl, -,⟨k,k',M,M',⟨a1,a2⟩,⟨b1,b2⟩,rfl⟩⟩
 refine⟨by simp[qM],?_⟩
 simp(disch:=omega)only[go_sem]
 cases hA:adk k M
 ·have hno:aq4 k M k' M'=false:=by unfold aq4;rw[hA];rfl
  have cA:=j1 k k' M M' a1 a2 b1 b2 hno
  have cM:=j0 k k' M M' a1 a2 b1 b2 hno
  cases hB:adk k' M'
  ·refine qa (zD k M a1 a2 hA) ?_
   simp(disch:=omega)only[go_sem]
   refine qa (zD k' M' b1 b2 hB) ?_
   simp(disch:=omega)only[go_sem]
   refine qa (cA) ?_
   simp(disch:=omega)only[go_sem]
   refine qa (cM) ?_
   simp(disch:=omega)only[go_sem]
   refine ql (zQ) ?_
   simp(disch:=omega)only[go_sem]
   exact qx
  ·obtain⟨n,L,rfl,rfl,hL⟩:=aoK hB
   rw[yn,List.length_map]at cA cM ⊢
   refine qa (zD k M a1 a2 hA) ?_
   simp(disch:=omega)only[go_sem]
   refine qa (zK n L hL) ?_
   simp(disch:=omega)only[go_sem]
   refine qa (cA) ?_
   simp(disch:=omega)only[go_sem]
   refine qa (cM) ?_
   simp(disch:=omega)only[go_sem]
   refine ql (zQ) ?_
   simp(disch:=omega)only[go_sem]
   exact qx
 obtain⟨n,L,rfl,rfl,hL⟩:=aoK hA
 have cN:=zK n L hL
 cases hB:adk k' M'
 ·have hno:aq4 n (L.map ExV.dyv) k' M'=false:=by unfold aq4;rw[hB,Bool.false_and,Bool.and_false]
  have cA:=j1 _ k' _ M' a1 a2 b1 b2 hno
  have cM:=j0 _ k' _ M' a1 a2 b1 b2 hno
  rw[yn,List.length_map]at cA cM ⊢
  refine qa (cN) ?_
  simp(disch:=omega)only[go_sem]
  refine qa (zD k' M' b1 b2 hB) ?_
  simp(disch:=omega)only[go_sem]
  refine qa (cA) ?_
  simp(disch:=omega)only[go_sem]
  refine qa (cM) ?_
  simp(disch:=omega)only[go_sem]
  cases(q8 n L n).fit
  ·simp(disch:=omega)only[go_sem]
   refine ql (zQ) ?_
   simp(disch:=omega)only[go_sem]
   exact qx
  ·simp(disch:=omega)only[go_sem]
   refine ql (zQ) ?_
   simp(disch:=omega)only[go_sem]
   exact qx
 obtain⟨n',L',rfl,rfl,hL'⟩:=aoK hB
 have cN':=zK n' L' hL'
 by_cases hn:n=n'
 rotate_left
 ·have hno:aq4 n (L.map ExV.dyv) n' (L'.map ExV.dyv)=false:=by
   unfold aq4
   rw[decide_eq_false (fun h=>hn (by omega)),Bool.and_false,Bool.and_false]
  have cA:=j1 _ _ _ _ a1 a2 b1 b2 hno
  have cM:=j0 _ _ _ _ a1 a2 b1 b2 hno
  rw[yn,yn,List.length_map,List.length_map]at cA cM ⊢
  refine qa (cN) ?_
  simp(disch:=omega)only[go_sem]
  refine qa (cN') ?_
  simp(disch:=omega)only[go_sem]
  refine qa (cA) ?_
  simp(disch:=omega)only[go_sem]
  refine qa (cM) ?_
  simp(disch:=omega)only[go_sem]
  cases(q8 n L n).fit<;>cases(q8 n' L' n').fit
  all_goals
   simp(disch:=omega)only[go_sem]
   refine ql zQ ?_
   simp(disch:=omega)only[go_sem]
   exact qx
 subst hn
 rw[yn,yn,List.length_map,List.length_map]
 have cA:=adW n L L' hL hL'
 have cM:=adV n L L' hL hL'
 refine qa (cN) ?_
 simp(disch:=omega)only[go_sem]
 refine qa (cN') ?_
 simp(disch:=omega)only[go_sem]
 refine qa (cA) ?_
 simp(disch:=omega)only[go_sem]
 refine qa (cM) ?_
 simp(disch:=omega)only[go_sem]
 cases f1:(q8 n L n).fit
 ·simp(disch:=omega)only[go_sem]
  refine ql (zQ) ?_
  simp(disch:=omega)only[go_sem]
  exact qx
 cases f2:(q8 n L' n).fit
 ·simp(disch:=omega)only[go_sem]
  refine ql (zQ) ?_
  simp(disch:=omega)only[go_sem]
  exact qx
 cases f3:(j6 n L L').all ExV.fit
 ·simp(disch:=omega)only[go_sem]
  refine ql (zQ) ?_
  simp(disch:=omega)only[go_sem]
  exact qx
 cases f4:(zR n L L').all ExV.fit
 ·simp(disch:=omega)only[go_sem]
  refine ql (zQ) ?_
  simp(disch:=omega)only[go_sem]
  exact qx
 obtain⟨g1,g2,hP⟩:=aBu (l:=j6 n L L') hL.n1 hL.n4 ja f3
 obtain⟨g3,g4,hT⟩:=aBu (l:=zR n L L') hL.n1 hL.n4 ja f4
 have vP:∀i j,i<n→j<n→mv 3000 ((j6 n L L').map ExV.can) n i j=mv 3000 L n i j+mv 3000 L' n i j:=fun i j hi hj=>aJK (hL.eK (by omega)) (hL'.eK (by omega)) hL.len hL'.len hi hj
 have vT:∀i j,i<n→j<n→mv (3000+3000) ((zR n L L').map ExV.can) n i j=qK (fun t=>mv 3000 L n i t*mv 3000 L' n t j) n:=fun i j hi hj=>aBb (hL.eK (by omega)) (hL'.eK (by omega)) hL.len hL'.len hi hj
 simp(disch:=omega)only[go_sem]
 rw[g1,g2,g3,g4]
 generalize (j6 n L L').map ExV.can=P at*
 generalize (zR n L L').map ExV.can=T at*
 refine qa (zK n P hP) ?_
 simp(disch:=omega)only[go_sem]
 refine qa (zK n T hT) ?_
 simp(disch:=omega)only[go_sem]
 have nL:=@y7 3000 n L hL (by omega) f1
 have nL':=@y7 3000 n L' hL' (by omega) f2
 have nP:=@y7 3000 n P hP (by omega)
 have nT:=@y7 (3000+3000) n T hT (by omega)
 have xo:=j3 (q8 n L n)
 have yo:=j3 (q8 n L' n)
 have uo:=j3 (q8 n P n)
 have vo:=j3 (q8 n T n)
 have d1:=aqg (-3) 0 (by omega) (by omega)
 have d2:=aqg 3 0 (by omega) (by omega)
 rw[show(ExV.mk (decide ((-3:Int)<0)) (-3:Int).natAbs 0).tel=⟨true,3,0⟩ by decide+kernel]at d1
 rw[show(ExV.mk (decide ((3:Int)<0)) (3:Int).natAbs 0).tel=⟨false,3,0⟩ by decide+kernel]at d2
 have o3:ExV.ok ⟨true,3,0⟩=true:=by decide+kernel
 have o4:ExV.ok ⟨false,3,0⟩=true:=by decide+kernel
 have cS:=YM n L ⟨true,3,0⟩ hL o3
 generalize (q8 n L n).tel=x at*
 generalize (q8 n L' n).tel=y at*
 generalize (q8 n P n).tel=u at*
 generalize (q8 n T n).tel=v at*
 generalize (q8 n P n).fit=b1 at*
 generalize (q8 n T n).fit=b2 at*
 have w0:=aeM x y false xo yo
 have z0:=Zf x y false xo yo
 have t0:=Zf x ⟨false,3,0⟩ false xo o4
 rw[Bool.and_false]at w0 z0 t0
 cases b1
 ·simp(disch:=omega)only[go_sem]
  refine qa (w0) ?_
  simp(disch:=omega)only[go_sem]
  refine qa (z0) ?_
  simp(disch:=omega)only[go_sem]
  refine qs rfl [⟨0,[],[]⟩,⟨6,[0],[]⟩,⟨1,[0],[220000000]⟩,⟨2,[],[220000000]⟩,⟨3,[],[220000000]⟩,⟨4,[],[220000000]⟩,⟨5,[],[220000000]⟩,⟨7,[],[]⟩,⟨8,[],[]⟩] (by kernel_rfl) ?_
  simp(disch:=omega)only[go_sem]
  refine qa (d1) ?_
  simp(disch:=omega)only[go_sem]
  refine qa (cS) ?_
  simp(disch:=omega)only[go_sem]
  refine qN (yi n (qY n L ⟨true,3,0⟩) hL.n1 hL.n4 ja) (by simp(disch:=omega)only[go_sem]) ?_
  rintro r hs ⟨rfl, -,g,b4,og,hg,rfl⟩
  refine⟨by simp[qM],?_⟩
  simp(disch:=omega)only[go_sem]
  refine qs rfl [⟨0,[],[]⟩,⟨2,[0],[]⟩,⟨7,[0],[]⟩,⟨1,[0],[260000000]⟩,⟨3,[],[260000000]⟩,⟨4,[],[260000000]⟩,⟨5,[],[260000000]⟩,⟨6,[],[260000000]⟩,⟨8,[],[]⟩,⟨9,[],[]⟩] (by kernel_rfl) ?_
  simp(disch:=omega)only[go_sem]
  refine qa (d2) ?_
  simp(disch:=omega)only[go_sem]
  refine qa (t0) ?_
  simp(disch:=omega)only[go_sem]
  exact qx
 cases b2
 ·simp(disch:=omega)only[go_sem]
  refine qa (w0) ?_
  simp(disch:=omega)only[go_sem]
  refine qa (z0) ?_
  simp(disch:=omega)only[go_sem]
  refine qs rfl [⟨0,[],[]⟩,⟨6,[0],[]⟩,⟨1,[0],[220000000]⟩,⟨2,[],[220000000]⟩,⟨3,[],[220000000]⟩,⟨4,[],[220000000]⟩,⟨5,[],[220000000]⟩,⟨7,[],[]⟩,⟨8,[],[]⟩] (by kernel_rfl) ?_
  simp(disch:=omega)only[go_sem]
  refine qa (d1) ?_
  simp(disch:=omega)only[go_sem]
  refine qa (cS) ?_
  simp(disch:=omega)only[go_sem]
  refine qN (yi n (qY n L ⟨true,3,0⟩) hL.n1 hL.n4 ja) (by simp(disch:=omega)only[go_sem]) ?_
  rintro r hs ⟨rfl, -,g,b4,og,hg,rfl⟩
  refine⟨by simp[qM],?_⟩
  simp(disch:=omega)only[go_sem]
  refine qs rfl [⟨0,[],[]⟩,⟨2,[0],[]⟩,⟨7,[0],[]⟩,⟨1,[0],[260000000]⟩,⟨3,[],[260000000]⟩,⟨4,[],[260000000]⟩,⟨5,[],[260000000]⟩,⟨6,[],[260000000]⟩,⟨8,[],[]⟩,⟨9,[],[]⟩] (by kernel_rfl) ?_
  simp(disch:=omega)only[go_sem]
  refine qa (d2) ?_
  simp(disch:=omega)only[go_sem]
  refine qa (t0) ?_
  simp(disch:=omega)only[go_sem]
  exact qx
 have w1:=aeM x y true xo yo
 have z1:=Zf x y (x.plus y).fit xo yo
 rw[Bool.and_true]at w1
 simp(disch:=omega)only[go_sem]
 refine qa (w1) ?_
 simp(disch:=omega)only[go_sem]
 refine qa (z1) ?_
 simp(disch:=omega)only[go_sem]
 refine qs rfl [⟨0,[],[]⟩,⟨6,[0],[]⟩,⟨1,[0],[220000000]⟩,⟨2,[],[220000000]⟩,⟨3,[],[220000000]⟩,⟨4,[],[220000000]⟩,⟨5,[],[220000000]⟩,⟨7,[],[]⟩,⟨8,[],[]⟩] (by kernel_rfl) ?_
 simp(disch:=omega)only[go_sem]
 refine qa (d1) ?_
 simp(disch:=omega)only[go_sem]
 refine qa (cS) ?_
 simp(disch:=omega)only[go_sem]
 refine qN (yi n (qY n L ⟨true,3,0⟩) hL.n1 hL.n4 ja) (by simp(disch:=omega)only[go_sem]) ?_
 rintro r hs ⟨rfl, -,g,b4,og,hg,rfl⟩
 refine⟨by simp[qM],?_⟩
 simp(disch:=omega)only[go_sem]
 refine qs rfl [⟨0,[],[]⟩,⟨2,[0],[]⟩,⟨7,[0],[]⟩,⟨1,[0],[260000000]⟩,⟨3,[],[260000000]⟩,⟨4,[],[260000000]⟩,⟨5,[],[260000000]⟩,⟨6,[],[260000000]⟩,⟨8,[],[]⟩,⟨9,[],[]⟩] (by kernel_rfl) ?_
 simp(disch:=omega)only[go_sem]
 refine qa (d2) ?_
 simp(disch:=omega)only[go_sem]
 refine qa (Zf x ⟨false,3,0⟩ ((x.times y).fit&&(x.plus y).fit) xo o4) ?_
 simp(disch:=omega)only[go_sem]
 cases f7:(x.plus y).fit
 ·simp(disch:=omega)only[go_sem,f7]
  exact qx
 cases f8:(x.times y).fit
 ·simp(disch:=omega)only[go_sem,f7,f8]
  exact qx
 cases f9:(x.times ⟨false,3,0⟩).fit
 ·simp(disch:=omega)only[go_sem,f7,f8,f9]
  exact qx
 simp(disch:=omega)only[go_sem,f7,f8,f9]
 cases f10:(qY n L ⟨true,3,0⟩).all ExV.fit
 ·simp(disch:=omega)only[go_sem,f10]
  exact qx
 cases b4
 ·simp(disch:=omega)only[go_sem,f10]
  exact qx
 simp(disch:=omega)only[go_sem,f10]
 have nP:=nP rfl
 have nT:=nT rfl
 have ex:=(jx xo).1.1
 have ey:=(jx yo).1.1
 have hw:(x.plus y).tel.val 3000=x.val 3000+y.val 3000:=by
  rw[J4 f7,Ja (K:=3000) (aen (by omega) (by omega)),Q7 (by omega) (by omega)]
 have hz:(x.times y).tel.val (3000+3000)=x.val 3000*y.val 3000:=by
  rw[J4 f8,Ja (by show _≤x.e+y.e;omega),yU (by omega) (by omega)]
 have ht:(x.times ⟨false,3,0⟩).tel.val 3000=x.val 3000*3:=by
  rw[J4 f9,Ja (by show _≤x.e+0;omega)]
  have:=yU (K:=3000) (K':=0) (x:=x) (y:=⟨false,3,0⟩) (by omega) (by show-((0:Nat):Int)≤0;omega)
  rw[show(3000:Nat)=3000+0 from rfl,this]
  rfl
 have wo:=j3 (x.plus y)
 have zo:=j3 (x.times y)
 have to:=j3 (x.times ⟨false,3,0⟩)
 obtain⟨-,h5,h6⟩:=hg rfl
 obtain⟨-, -,hH⟩:=aBu (l:=qY n L ⟨true,3,0⟩) hL.n1 hL.n4 ja f10
 have nH:=@y7 3000 n _ hH (by omega) h5
 rw[←h6]at nH
 have hsc:=aou (A:=mv 3000 L n) (C:=mv 3000 ((qY n L ⟨true,3,0⟩).map ExV.can) n) (n:=n) (c:= -3) (by omega) (fun i j hi hj=>by
  have:=aoE (K:=3000) (K':=0) (y:=⟨true,3,0⟩) (hL.eK (by omega)) (by show-((0:Nat):Int)≤0;omega) hL.len hi hj
  rw[show(3000:Nat)+0=3000 from rfl]at this
  rw[this]
  rfl)
 have hgt:g=(x.times ⟨false,3,0⟩).tel:=aOi (K:=3000) og to (jx og).1.1 (jx to).1.1 (by rw[nH,hsc,ht,nL];rfl)
 have hu:u.val 3000≤(x.plus y).tel.val 3000:=by rw[nP,hw,nL,nL'];exact aJm vP
 have hv:v.val 3000≤(x.times y).tel.val 3000:=by
  rw[(aMz 3000 vo zo).1,nT,hz,nL,nL'];exact aJl vT
 generalize (x.plus y).tel=w at*
 generalize (x.times y).tel=z at*
 generalize (x.times ⟨false,3,0⟩).tel=t at*
 refine ql (aac u w uo wo) ?_
 simp(disch:=omega)only[go_sem]
 simp(disch:=omega)only[go_sem,decide_eq_true ((YN _ _).1.2 hu)]
 refine ql (aac v z vo zo) ?_
 simp(disch:=omega)only[go_sem]
 simp(disch:=omega)only[go_sem,decide_eq_true ((YN _ _).1.2 hv)]
 refine ql (apJ g t og to) ?_
 simp(disch:=omega)only[go_sem]
 simp(disch:=omega)only[go_sem,decide_eq_true hgt]
 exact qx
end Go.Ab
namespace Go.Proofs.YtjkhfpjccemboaaGreatDoor
open Go.ChangeShapes Go.WideShapes Go.ChangeAt Go.RowKit Go.Ab
theorem own:ownKnob Tryz.prog.godebug=none:=by kernel_rfl
theorem aJ0:laidOutB Tryz.prog=true:=by kernel_rfl
theorem anW:Tryz.prog.globalNamed "math/bits.deBruijn64tab" =some 1:=by kernel_rfl
theorem aIc:(Tryz.prog.globals[1]?).map (·.type)=some 257:=by kernel_rfl
theorem aIb:Tryz.prog.underlying 257=some (.array 64 5):=by kernel_rfl
theorem aIf:Tryz.prog.underlying 5=some (.int .u8):=by kernel_rfl
theorem aIg:Tryz.prog.cellsOf 5=1:=by kernel_rfl
theorem aId:Tryz.prog.cellsOf 257=64:=by kernel_rfl
noncomputable def yw:List (String×DataW Unit):=[("math/bits.deBruijn32tab",Rows.laid_math_bits_deBruijn32tab),("math/bits.deBruijn64tab",Rows.laid_math_bits_deBruijn64tab)]
theorem aIe{W:World}(h:laidMetH Tryz.prog yw W):Gd W:=by
 have h':laidMet Tryz.prog yw W:=h
 have h2:laidMet Tryz.prog [("math/bits.deBruijn64tab",Lib.tabData .u8 (Lib.deBruijn64tab.map Int.ofNat))] W:=laidMet.tail h'
 have hT:=Lib.tabIs_of_head anW aIc aIb aIf aIg aId h2
 intro g l hg
 unfold glb at hg
 split at hg
 ·rename_i e
  subst e
  cases hg
  have hc:∀i,i<Lib.deBruijn64tab.length→W.cell? ⟨1,i,none⟩=some (.int .u8 ((Lib.deBruijn64tab.getD i 0:Nat):Int)):=fun i hi=>by
   have:=hT.cell anW i (by simpa using hi)
   rw[this]
   simp[List.getD,hi]
  exact⟨aeP (hc 0 (by decide)),hc⟩
 ·cases hg
noncomputable def KM(os:Os):World:=
 let w0:=World.holding Tryz.prog os ⟨#[],#[],[]⟩
 {w0 with heap:=(w0.heap.modify 1 fun
   | .cells _ t frozen=>.cells (Lib.deBruijn64tab.map fun z=>Value.int .u8 (Int.ofNat z)).toArray t frozen
   |o=>o).modify 0 fun
   | .cells _ t frozen=>.cells (Lib.deBruijn32tab.map fun z=>Value.int .u8 (Int.ofNat z)).toArray t frozen
   |o=>o}
theorem Yn(os:Os)(args:Array Value):laidMetH Tryz.prog yw ((KM os).forCall (fun _ _=>0) ⟨#[],args,[]⟩).memory:=
 laidMetH_of_parts (laidMet_of_run' 8 (by kernel_rfl) (by kernel_rfl)) (by kernel_rfl)
end Go.Proofs.YtjkhfpjccemboaaGreatDoor
