/- What the proof of this claim stands on: the walks of the functions and the plain laws, part 5. -/
import Derived.Test.YtcobffkepgogiaaGreatDoorFnPolyAtsLib4
set_option linter.unusedVariables false
set_option linter.unusedSimpArgs false
namespace Go.Ab
open Go Go.Proofs
instance (lo hi:Int)(x:ExV):Decidable (x.bd lo hi):=inferInstanceAs (Decidable ((x.m=0→x.s=false)∧lo≤x.e∧(bl x.m:Int)+x.e≤hi))
instance (lo hi:Int)(x:SpV):Decidable (x.bd lo hi):=inferInstanceAs (Decidable (x.lo.bd lo hi∧x.hi.bd lo hi))
instance (lo hi:Int)(l:List ExV):Decidable (gbd lo hi l):=inferInstanceAs (Decidable (∀x∈l,x.bd lo hi))
instance (lo hi:Int)(l:List SpV):Decidable (sbd lo hi l):=inferInstanceAs (Decidable (∀x∈l,x.bd lo hi))
def hB:List SpV:=(qC 1 [ex0] (ex1.shift 0)).map ptS
def hSt:Nat→List SpV×List SpV
 |0=>((gId 1).map ptS,(gId 1).map ptS)
 |i+1=>(aag (hSt i).1 ((jK 1 (hSt i).2 hB).map fun s=>s.divd (i+1) (-22)),(jK 1 (hSt i).2 hB).map fun s=>s.divd (i+1) (-22))
def aMT:List SpV:=(hSt 7).1.map fun s=>s.fat (ex1.shift (-22))
def aEV:List SpV:=aMT.map fun s=>s.out (-14)
theorem ZR:∀i,(hSt i).1.length=1∧(hSt i).2.length=1
 |0=>by decide+kernel
 |i+1=>⟨aaf.trans (ZR i).1,by show(List.map _ _).length=1;rw[List.length_map];exact ZS⟩
theorem apB:∀i,i<8→sbd (-100000) 100000 (hSt i).1∧sbd (-100000) 100000 (hSt i).2∧sbd (-100000) 100000 (jK 1 (hSt i).2 hB):=by decide+kernel
theorem bcS:tmF 22=7:=by decide+kernel
set_option maxRecDepth 100000 in
theorem aqD(n:Nat)(h1:n=1):Con Tryz.prog 170 false [.ag [.v (.int .i64 (n)),.sl ([ex0]).length (ql ExV.cs ([ex0]))],.v (.int .i64 (-10))] [] (isA (.ag [.v (.int .i64 (n)),.sl (aEV).length (ql SpV.cs (aEV))])):=by
 refine Con.frzA ?_
 have hn:n≤4:=by omega
 have cn:=YR n [ex0] hn (by rw[h1];rfl) (by decide+kernel)
 rw[show yi n [ex0] n=ex0 by rw[h1];decide+kernel]at cn
 have cz:Con Tryz.prog 117 true [.ag [.v (.bool (ex0).s),.sl (lim (ex0).m).length (qc (lim (ex0).m)),.v (.int .i64 (ex0).e)]] [] (isA (.v (.bool true))):=JX ex0.s ex0.m ex0.e
 have cs:=QI ex1 0 (by decide) (by decide)
 have cg:=j6 n [ex0] (ex1.shift 0) hn (by rw[h1];rfl) (by decide+kernel) (by decide+kernel)
 have cf:=Z6 n (qC n [ex0] (ex1.shift 0)) (by show(gl _ _ _).length≤_;rw[zn,h1];decide)
 rw[show(qC n [ex0] (ex1.shift 0)).map ptS=hB by rw[h1];rfl]at cf
 have ci:=aek n hn
 have cfi:=Z6 n (gId n) (by show(gl _ _ _).length≤_;rw[zn,h1];decide)
 rw[show(gId n).map ptS=(hSt 0).1 by rw[h1];rfl]at cfi
 have ct:Con Tryz.prog 230 true [.v (.int .i64 (-22))] [] (isA (.v (.int .i64 7))):=by have:=aqe 22 (by omega);rw[bcS]at this;exact this
 have hw:(-10-2*0-12:Int)= -22:=rfl
 have cs2:=QI ex1 (-22) (by decide) (by decide)
 have cft:=aC7 n (hSt 7).1 (ex1.shift (-22)) (by rw[(ZR 7).1];decide) (jS (apB 7 (by decide)).1 (by omega) (by omega)) (by decide+kernel)
 change Con _ _ _ _ _ (isA (.ag [.v (.int .i64 (n)),.sl (aMT).length (ql SpV.cs (aMT))]))at cft
 have cot:=aC6 n aMT (-14) (by show(List.map _ _).length≤_;rw[List.length_map,(ZR 7).1];decide) (by decide+kernel) (by omega)
 change Con _ _ _ _ _ (isA (.ag [.v (.int .i64 (n)),.sl (aEV).length (ql SpV.cs (aEV))]))at cot
 generalize qC n [ex0] (ex1.shift 0)=G at*
 generalize gId n=I at*
 refine Con.of_w (rs:=[.cell 4 155]) Tryz.func170 rfl Tryz.ntmps170 rfl ?_
 simp(disch:=omega)only[go_sem]
 refine qa (cn) ?_
 simp(disch:=omega)only[go_sem]
 refine qm (cz) ?_
 simp(disch:=omega)only[go_sem]
 rw[hw]
 refine qs rfl [⟨0,[],[]⟩,⟨2,[0],[]⟩,⟨3,[0],[]⟩,⟨7,[0],[]⟩,⟨1,[0],[100000000]⟩,⟨4,[0],[100000000]⟩,⟨5,[],[100000000]⟩,⟨6,[],[100000000]⟩,⟨8,[],[]⟩] (by kernel_rfl) ?_
 simp(disch:=omega)only[go_sem]
 refine qa (YQ) ?_
 simp(disch:=omega)only[go_sem]
 refine qa (cs) ?_ (by simp(disch:=omega)only[go_sem,show(0-0:Int)=0 from rfl])
 simp(disch:=omega)only[go_sem]
 refine qa (cg) ?_
 simp(disch:=omega)only[go_sem]
 refine qa (cf) ?_
 simp(disch:=omega)only[go_sem]
 refine qa (ci) ?_
 simp(disch:=omega)only[go_sem]
 refine qa (cfi) ?_
 simp(disch:=omega)only[go_sem]
 refine qi (fun i:Nat=>[(1,.v (.int .i64 (-10))),(4,.pt 0 0),(6,.v (.int .i64 0)),(7,.v (.int .i64 (-22))),(8,.pt 1 0),(9,.pt 2 0),(10,.pt 3 0),(11,.v (.int .i64 ((i:Int)+1)))])
  (fun i=>[(0,.own 0 [.v (.int .i64 0),.v (.slice none 0 0)]),(1,.own 0 [.v (.int .i64 n),.sl hB.length (ql SpV.cs hB)]),(2,.own 0 [.v (.int .i64 n),.sl (hSt i).1.length (ql SpV.cs (hSt i).1)]),(3,.own 0 [.v (.int .i64 n),.sl (hSt i).2.length (ql SpV.cs (hSt i).2)])])
  (fun i=>i≤7) (fun i=>7-i) 0 (by omega)
  (Le.lst [(0,60000000),(1,100000000),(2,110000000),(3,120000000)] _ _ rfl (by simp(disch:=omega)only[go_sem,show(0:Int)+1=1 from rfl]) (by simp(disch:=omega)only[go_sem,show(hSt 0).2=(hSt 0).1 from rfl])) ?_
 intro i hi
 obtain⟨b1,b2,b3⟩:=apB i (by omega)
 obtain⟨l1,l2⟩:=ZR i
 have ei:(i:Int)+1=((i+1:Nat):Int):=by omega
 have hBl:hB.length=1:=by decide+kernel
 have hBb:sbd (-190000) 190000 hB:=by decide+kernel
 have cT:=ajU n (hSt i).2 hB hn (by rw[h1,l2]) (by rw[h1,hBl]) (jS b2 (by omega) (by omega)) hBb
 rw[show jK n (hSt i).2 hB=jK 1 (hSt i).2 hB by rw[h1]]at cT
 have hTl:(jK 1 (hSt i).2 hB).length=1:=ZS
 have cD:=aC8 n (jK 1 (hSt i).2 hB) (i+1) (-22) (by omega) b3 (by omega) (by omega) (by omega)
 rw[←ei]at cD
 change Con _ _ _ _ _ (isA (.ag [.v (.int .i64 (n)),.sl ((hSt (i+1)).2).length (ql SpV.cs ((hSt (i+1)).2))]))at cD
 simp(disch:=omega)only[go_sem]
 refine qm (ct) ?_
 simp(disch:=omega)only[go_sem]
 refine qe (fun h2=>?_) (fun h2=>?_)
 ·have b4:=(apB (i+1) (by omega)).2.1
  have cP:=aqF n (hSt i).1 (hSt (i+1)).2 (by omega) (by rw[l1];exact(ZR (i+1)).2) (jS b1 (by omega) (by omega)) (jS b4 (by omega) (by omega))
  change Con _ _ _ _ _ (isA (.ag [.v (.int .i64 (n)),.sl ((hSt (i+1)).1).length (ql SpV.cs ((hSt (i+1)).1))]))at cP
  generalize jK 1 (hSt i).2 hB=T at*
  generalize hS2:(hSt (i+1)).2=S2 at*
  generalize hS1:(hSt (i+1)).1=S1 at*
  simp(disch:=omega)only[go_sem,h2]
  refine qa (cT) ?_
  simp(disch:=omega)only[go_sem]
  refine qa (cD) ?_
  simp(disch:=omega)only[go_sem]
  refine qa (cP) ?_
  simp(disch:=omega)only[go_sem]
  exact qb (i+1) [] (by show i+1≤7;omega) (by show 7-(i+1)<7-i;omega) rfl (by simp(disch:=omega)only[go_sem];try omega) (by simp(disch:=omega)only[go_sem,hS1,hS2])
 ·obtain rfl:i=7:=by omega
  simp(disch:=omega)only[go_sem,h2]
  refine qs rfl [⟨0,[],[]⟩,⟨2,[0],[]⟩,⟨1,[0],[]⟩,⟨3,[0],[]⟩,⟨4,[],[]⟩,⟨5,[],[]⟩] (by kernel_rfl) ?_
  simp(disch:=omega)only[go_sem]
  refine qa (YQ) ?_
  simp(disch:=omega)only[go_sem]
  refine qa (cs2) ?_
  simp(disch:=omega)only[go_sem]
  refine qa (cft) ?_
  simp(disch:=omega)only[go_sem]
  refine qi (fun _:Nat=>[(1,.v (.int .i64 (-10))),(4,.pt 0 0),(9,.pt 2 0),(58,.v (.int .i64 0)),(59,.v (.int .i64 0))])
   (fun _=>[(0,.own 0 [.v (.int .i64 0),.v (.slice none 0 0)]),(2,.own 0 [.v (.int .i64 n),.sl aMT.length (ql SpV.cs aMT)])]) (fun _=>True) (fun _=>0) 0 trivial (Le.lst [] _ _ rfl (by simp(disch:=omega)only[go_sem]) (by simp(disch:=omega)only[go_sem])) ?_
  intro _ _
  have q:decide ((0:Int)<0)=false:=rfl
  simp(disch:=omega)only[go_sem,q]
  refine qa (cot) ?_ (by simp(disch:=omega)only[go_sem,show(-10-4:Int)= -14 from rfl])
  simp(disch:=omega)only[go_sem]
  exact qk
end Go.Ab
namespace Go.Ab
open Go Go.Proofs
section
variable (g:Nat)(p:DyV→Bool)
theorem ajY(x:DyV)(hf:Con Tryz.prog g true [.ag x.cs] [] (isA (.v (.bool (p x)))))(hg:qp Tryz.prog g=True):
  Con Tryz.prog 228 true [.ag x.cs,.fp [.fn g []] 0] [] (isA (.v (.bool (!p x)))):=by
 unfold DyV.cs at hf ⊢
 refine Con.of_w (rs:=[.tmp 3]) Tryz.func228 rfl Tryz.ntmps228 rfl ?_
 simp(disch:=omega)only[go_sem,hg]
 refine qD hf (by simp(disch:=omega)only[go_sem]) ?_
 rintro r hs ⟨rfl,rfl,_⟩
 refine⟨by simp[qN],?_⟩
 simp(disch:=omega)only[go_sem]
 exact qx
theorem aei(f:Nat)(caps:List AV)(xs:List DyV)(hl:xs.length≤2^40)(hf:∀x∈xs,Con Tryz.prog f true (.ag x.cs::caps) [] (isA (.v (.bool (p x)))))(hg:qp Tryz.prog f=True)
  (hc:∀h:Nat→Ob,caps.map (qF h 6)=caps) (hc5:∀h:Nat→Ob,caps.map (qF h 5)=caps) (hn:∀ks,AllL (yd ks) caps) (hr:∀ρ,zM ρ caps=caps):
  Con Tryz.prog 266 true [.sl xs.length (ql DyV.cs xs),.fn f caps] [] (fun r hs bs=>∃i:Int,r=.v (.int .i64 i)∧hs=[]∧(0≤i↔∃x∈xs,p x=true)):=by
 refine Con.of_aw Tryz.func266 rfl Tryz.ntmps266 (by simp) (by simp) (by simp) (W.sound ?_)
 show @W Tryz.prog 19 ⟨_⟩ ⟨fun x σ=>@za _ _ _ ⟨_⟩ _ ⟨_⟩ x σ⟩ _ _
 simp(disch:=omega)only[go_sem]
 refine qi (fun i:Nat=>[(0,.sl xs.length (ql DyV.cs xs)),(1,.fn f caps),(6,.sl xs.length (ql DyV.cs xs)),(7,.v (.int .i64 xs.length)),(8,.v (.int .i64 i))])
  (fun _=>[]) (fun i=>i≤xs.length∧∀j,j<i→p (xs.getD j ⟨false,[],0⟩)=false) (fun i=>xs.length-i) 0 ⟨by omega,fun j hj=>by omega⟩ (Le.lst [] _ _ rfl (by simp(disch:=omega)only[go_sem,hr,hn]) (by simp(disch:=omega)only[go_sem])) ?_
 rintro i ⟨hi,hp⟩
 simp(disch:=omega)only[go_sem]
 refine qe (fun h1=>?_) (fun h1=>?_)
 ·have hcut:=ady (l:=xs) afa (i:=i) (by omega) ⟨false,[],0⟩
  simp(disch:=omega)only[go_sem,h1,hcut,hg]
  refine⟨by omega,by omega,qD (hf (xs.getD i ⟨false,[],0⟩) (by rw[List.getD_eq_getElem?_getD,List.getElem?_eq_getElem (by omega)];exact List.getElem_mem _)) (by simp(disch:=omega)only[go_sem,hc,hc5]) ?_⟩
  rintro r hs ⟨rfl,rfl,_⟩
  refine⟨by simp[qN],?_⟩
  simp(disch:=omega)only[go_sem]
  refine Qd (fun h2=>?_) (fun h2=>?_)
  ·simp(disch:=omega)only[go_sem,h2]
   refine qy (by simp(disch:=omega)only[go_sem]) (by simp(disch:=omega)only[go_sem]) ⟨i,rfl,rfl,?_⟩
   refine⟨fun _=>⟨_,?_,h2⟩,fun _=>by omega⟩
   rw[List.getD_eq_getElem?_getD,List.getElem?_eq_getElem (by omega)];exact List.getElem_mem _
  ·simp(disch:=omega)only[go_sem,h2]
   refine qb (i+1) [] ⟨by omega,fun j hj=>?_⟩ (by show xs.length-(i+1)<xs.length-i;omega) rfl (by simp(disch:=omega)only[go_sem,hr,hn];try omega) (by simp(disch:=omega)only[go_sem])
   rcases(by omega:j<i∨j=i)with h|h
   ·exact hp j h
   ·subst h;exact h2
 ·simp(disch:=omega)only[go_sem,h1]
  refine qy (by simp(disch:=omega)only[go_sem]) (by simp(disch:=omega)only[go_sem]) ⟨-1,rfl,rfl,?_⟩
  refine⟨fun h=>by omega,fun⟨x,hx,hpx⟩=>?_⟩
  obtain⟨j,hj,rfl⟩:=List.getElem_of_mem hx
  have:=hp j (by omega)
  rw[List.getD_eq_getElem?_getD,List.getElem?_eq_getElem hj]at this
  simp only[Option.getD_some]at this
  rw[this]at hpx;cases hpx
theorem Jp(f:Nat)(caps:List AV)(xs:List DyV)(hl:xs.length≤2^40)(hf:∀x∈xs,Con Tryz.prog f true (.ag x.cs::caps) [] (isA (.v (.bool (p x)))))(hg:qp Tryz.prog f=True)
  (hc:∀h:Nat→Ob,caps.map (qF h 6)=caps) (hc5:∀h:Nat→Ob,caps.map (qF h 5)=caps) (hn:∀ks,AllL (yd ks) caps) (hr:∀ρ,zM ρ caps=caps):
  Con Tryz.prog 227 true [.sl xs.length (ql DyV.cs xs),.fn f caps] [] (isA (.v (.bool (xs.any p)))):=by
 refine Con.of_aw Tryz.func227 rfl Tryz.ntmps227 (by simp) (by simp) (by simp) (W.sound ?_)
 show @W Tryz.prog 9 ⟨_⟩ ⟨fun x σ=>@za _ _ _ ⟨_⟩ _ ⟨_⟩ x σ⟩ _ _
 simp(disch:=omega)only[go_sem]
 refine qD (aei p f caps xs hl hf hg hc hc5 hn hr) (by simp(disch:=omega)only[go_sem,hc,hc5]) ?_
 rintro r hs ⟨i,rfl,rfl,hi⟩
 refine⟨by simp[qN],?_⟩
 simp(disch:=omega)only[go_sem]
 refine qy (by simp(disch:=omega)only[go_sem]) (by simp(disch:=omega)only[go_sem]) ⟨?_,rfl,rfl⟩
 have:decide (0≤i)=xs.any p:=by rw[Bool.eq_iff_iff,decide_eq_true_eq,hi,List.any_eq_true]
 rw[this];rfl
theorem aqK(xs:List DyV)(hl:xs.length≤2^40)(hf:∀x∈xs,Con Tryz.prog g true [.ag x.cs] [] (isA (.v (.bool (p x)))))(hg:qp Tryz.prog g=True):
  Con Tryz.prog 164 true [.sl xs.length (ql DyV.cs xs),.fn g []] [] (isA (.v (.bool (xs.all p)))):=by
 refine Con.of_aw Tryz.func164 rfl Tryz.ntmps164 (by simp) (by simp) (by simp) (W.sound ?_)
 show @W Tryz.prog 9 ⟨_⟩ ⟨fun x σ=>@za _ _ _ ⟨_⟩ _ ⟨_⟩ x σ⟩ _ _
 simp(disch:=omega)only[go_sem]
 refine qD (Jp (fun x=> !p x) 228 [.fp [.fn g []] 0] xs hl (fun x hx=>ajY g p x (hf x hx) hg) (by simp(disch:=omega)only[go_sem]) (fun h=>rfl) (fun h=>rfl) (fun ks=>by simp(disch:=omega)only[go_sem]) (fun ρ=>rfl)) (by simp(disch:=omega)only[go_sem]) ?_
 rintro r hs ⟨rfl,rfl,_⟩
 refine⟨by simp[qN],?_⟩
 simp(disch:=omega)only[go_sem]
 refine qy (by simp(disch:=omega)only[go_sem]) (by simp(disch:=omega)only[go_sem]) ⟨?_,rfl,rfl⟩
 have:(!xs.any fun x=> !p x)=xs.all p:=by rw[List.all_eq_not_any_not]
 rw[this];rfl
end
def DyV.ok(x:DyV):Bool:=dyB x.s x.xs x.e
theorem QM(xs:List DyV)(hl:xs.length≤2^40)(hx:∀x∈xs,x.xs.length≤2^40):Con Tryz.prog 81 true [.sl xs.length (ql DyV.cs xs)] [] (isA (.v (.bool (xs.all DyV.ok)))):=by
 refine Con.of_w (rs:=[.tmp 2]) Tryz.func81 rfl Tryz.ntmps81 rfl ?_
 simp(disch:=omega)only[go_sem]
 refine qm (aqK 92 DyV.ok xs hl (fun x h=>aff x.s x.xs x.e (hx x h)) (by simp(disch:=omega)only[go_sem])) ?_
 simp(disch:=omega)only[go_sem]
 exact qx
def K0(n:Int)(l:List DyV):Bool:=(decide (1≤n)&&decide (n≤4))&&(decide ((l.length:Int)=n*n)&&l.all DyV.ok)
theorem aaD(n:Int)(l:List DyV)(hl:l.length≤2^40)(hx:∀x∈l,x.xs.length≤2^40):Con Tryz.prog 80 true [.ag [.v (.int .i64 n),.sl l.length (ql DyV.cs l)]] [] (isA (.v (.bool (K0 n l)))):=by
 unfold K0
 cases h1:(decide (1≤n)&&decide (n≤4))
 ·rw[Bool.false_and]
  refine Con.of_w (rs:=[.tmp 2]) Tryz.func80 rfl Tryz.ntmps80 rfl ?_
  simp(disch:=omega)only[go_sem]
  refine qm (zJ n 1 4) ?_
  simp(disch:=omega)only[go_sem]
  simp(disch:=omega)only[go_sem,h1]
  exact qx
 ·rw[Bool.true_and]
  have h1':1≤n∧n≤4:=by simpa using h1
  have hq:0≤n*n∧n*n≤16:=⟨Int.mul_nonneg (by omega) (by omega),Int.mul_le_mul h1'.2 h1'.2 (by omega) (by omega)⟩
  cases h2:decide ((l.length:Int)=n*n)
  ·rw[Bool.false_and]
   refine Con.of_w (rs:=[.tmp 2]) Tryz.func80 rfl Tryz.ntmps80 rfl ?_
   simp(disch:=omega)only[go_sem]
   refine qm (zJ n 1 4) ?_
   simp(disch:=omega)only[go_sem]
   simp(disch:=omega)only[go_sem,h1,h2]
   exact qx
  ·rw[Bool.true_and]
   refine Con.of_w (rs:=[.tmp 2]) Tryz.func80 rfl Tryz.ntmps80 rfl ?_
   simp(disch:=omega)only[go_sem]
   refine qm (zJ n 1 4) ?_
   simp(disch:=omega)only[go_sem]
   simp(disch:=omega)only[go_sem,h1,h2]
   refine qm (QM l hl hx) ?_
   simp(disch:=omega)only[go_sem]
   exact qx
end Go.Ab
namespace Go.Ab
open Go Go.Proofs
def ExV.dy(x:ExV):DyV:=⟨x.s,lim x.m,x.e⟩
theorem aEH(l:List ExV):ql ExV.cs l=ql DyV.cs (l.map ExV.dy):=by unfold ql;rw[List.map_map];rfl
def ExV.ok(x:ExV):Bool:=dyB x.s (lim x.m) x.e
def aKx(n:Int)(l:List ExV):Bool:=(decide (1≤n)&&decide (n≤4))&&(decide ((l.length:Int)=n*n)&&l.all ExV.ok)
theorem aKw(n:Int)(l:List ExV):K0 n (l.map ExV.dy)=aKx n l:=by
 unfold K0 aKx
 rw[List.length_map,List.all_map];rfl
theorem JZ(n:Int)(l:List ExV)(hl:l.length≤2^40)(hx:∀x∈l,(lim x.m).length≤2^40):Con Tryz.prog 80 true [.ag [.v (.int .i64 n),.sl l.length (ql ExV.cs l)]] [] (isA (.v (.bool (aKx n l)))):=by
 have:=aaD n (l.map ExV.dy) (by rw[List.length_map];exact hl) (fun x h=>by
  obtain⟨y,hy,rfl⟩:=List.mem_map.1 h
  exact hx y hy)
 rw[aKw,←aEH,List.length_map]at this
 exact this
theorem Yl{x:ExV}(h:x.ok=true):x.bd (-3000) 4600:=by
 obtain⟨m,e1,h1,h2,h3,_,h4⟩:=QE h
 have e2:x.m=m:=yk e1
 subst e2
 exact⟨h4,by omega,by omega⟩
def ajg(F:List SpV)(X:List ExV)(k:Nat):List ExV:=(List.range k).map fun i=>zt [((F.getD i sp0).hi.plus (X.getD i ex0).neg).abs,((X.getD i ex0).plus (F.getD i sp0).lo.neg).abs]
theorem y7{F:List SpV}{X:List ExV}{k:Nat}:(ajg F X k).length=k:=by simp[ajg]
theorem aoZ{F:List SpV}{X:List ExV}{k:Nat}:ajg F X (k+1)=ajg F X k++[zt [((F.getD k sp0).hi.plus (X.getD k ex0).neg).abs,((X.getD k ex0).plus (F.getD k sp0).lo.neg).abs]]:=by simp[ajg,List.range_succ]
theorem aoY{lo hi:Int}{s:SpV}{x:ExV}(hs:s.bd lo hi)(hx:x.bd lo hi):gbd lo (hi+1) [(s.hi.plus x.neg).abs,(x.plus s.lo.neg).abs]:=by
 intro y hy
 simp only[List.mem_cons,List.not_mem_nil,or_false]at hy
 rcases hy with rfl|rfl
 ·exact ExV.abs_bd (ExV.plus_bd hs.2 (ExV.neg_bd hx))
 ·exact ExV.abs_bd (ExV.plus_bd hx (ExV.neg_bd hs.1))
theorem aJV{lo hi:Int}{F:List SpV}{X:List ExV}{k:Nat}(hF:sbd lo hi F)(hX:gbd lo hi X)(h1:k≤F.length)(h2:k≤X.length):gbd lo (hi+1) (ajg F X k):=by
 intro y hy
 simp only[ajg,List.mem_map,List.mem_range]at hy
 obtain⟨i,hi,rfl⟩:=hy
 exact Zg (aoY (jA hF (by omega)) (qT hX (by omega))) (by simp)
def ae4(n:Nat)(F:List SpV)(low:Int):List ExV:=aKZ n (F.map adH) low 0
def jL(n:Nat)(F:List SpV)(low:Int):ExV:=yi n (ajg F (ae4 n F low) (n*n)) n
theorem aKr{lo hi:Int}{s:SpV}(hs:s.bd lo hi):(adH s).bd (lo-1) hi:=by
 have:=ExV.shift_bd (k:= -1) (ExV.plus_bd hs.1 hs.2)
 exact this.mono (by omega) (by omega)
theorem aKY{lo hi low mode:Int}{n:Nat}{l:List ExV}(hl:l.length=n*n)(h:gbd lo hi l)(h1:lo≤low)(h2:low≤hi):gbd lo (hi+1) (aKZ n l low mode):=
 ajr fun i j hi hj=>ExV.rnd_bd (qT h (by rw[hl];exact qZ hi hj)) h1 h2
set_option maxRecDepth 100000 in
set_option maxHeartbeats 2000000 in
theorem aet(n:Nat)(L:List ExV)(low:Int)(F:List SpV)(hn:n≤4)(hL:L.length=n*n)(hlow: -1000≤low∧low≤1000)(ca:Con Tryz.prog 146 true [.ag [.v (.int .i64 (n)),.sl (L).length (ql ExV.cs (L))],.v (.int .i64 low)] [] (isA (.v (.bool true))))
  (ch:Con Tryz.prog 170 false [.ag [.v (.int .i64 (n)),.sl (L).length (ql ExV.cs (L))],.v (.int .i64 low)] [] (isA (.ag [.v (.int .i64 (n)),.sl (F).length (ql SpV.cs (F))]))) (hF:F.length=n*n) (hFb:sbd (-300000) 300000 F) (hfit:F.all SpV.fit=true):
  Con Tryz.prog 89 false [.ag [.v (.int .i64 (n)),.sl (L).length (ql ExV.cs (L))],.v (.int .i64 low)] []
   (isA (if((ae4 n F low).all ExV.fit&&(jL n F low).fit)=true then .tu [.ag [.v (.int .i64 n),.sl (ae4 n F low).length (ql ExV.cs ((ae4 n F low).map ExV.can))],.ag [.v (.bool ((jL n F low).can).s),.sl (lim ((jL n F low).can).m).length (qc (lim ((jL n F low).can).m)),.v (.int .i64 ((jL n F low).can).e)],.v (.bool true)]else .tu [.ag [.v (.int .i64 0),.sl 0 []],.ag [.v (.bool (false)),.sl (lim (0)).length (qc (lim (0))),.v (.int .i64 (0))],.v (.bool false)])):=by
 refine Con.frzA ?_
 have hq:=ye hn
 have cg:=zv n L (by omega)
 have cv:=aqC n F (by omega) (jS hFb (by omega) (by omega))
 rw[hfit,if_pos rfl]at cv
 have cm:=aLQ n F (by omega) (jS hFb (by omega) (by omega))
 have hml:(F.map adH).length=n*n:=by rw[List.length_map,hF]
 have hmb:gbd (-300001) 300000 (F.map adH):=by
  intro x hx
  obtain⟨s,hs,rfl⟩:=List.mem_map.1 hx
  exact(aKr (hFb s hs)).mono (by omega) (by omega)
 have cr:=aC3 n (F.map adH) low 0 hn hml (qQ hmb (by omega) (by omega)) (by omega)
 have hXl:(ae4 n F low).length=n*n:=by unfold ae4 aKZ;exact zn
 have hXb:gbd (-300001) 300001 (ae4 n F low):=aKY hml hmb (by omega) (by omega)
 change Con _ _ _ _ _ (isA (.ag [.v (.int .i64 (n)),.sl (ae4 n F low).length (ql ExV.cs (ae4 n F low))]))at cr
 have hOb:gbd (-300001) 300002 (ajg F (ae4 n F low) (n*n)):=aJV (jS hFb (by omega) (by omega)) hXb (by omega) (by omega)
 have cno:=YR n (ajg F (ae4 n F low) (n*n)) hn y7 (qQ hOb (by omega) (by omega))
 change Con _ _ _ _ _ (isA (.ag [.v (.bool (jL n F low).s),.sl (lim (jL n F low).m).length (qc (lim (jL n F low).m)),.v (.int .i64 (jL n F low).e)]))at cno
 have hFar:(jL n F low).bd (-300001) 300006:=(Ym y7 hOb (by omega) n (Nat.le_refl _)).mono (by omega) (by omega)
 have cw:=Jn n (ae4 n F low) (jL n F low) (by omega) (qQ hXb (by omega) (by omega)) (hFar.mono (by omega) (by omega))
 generalize jL n F low=far at*
 generalize ae4 n F low=X at*
 generalize F.map adH=M at*
 generalize F.map SpV.can=FC at*
 refine Con.of_w (rs:=[.cell 4 25,.cell 5 40,.tmp 6]) Tryz.func89 rfl Tryz.ntmps89 rfl ?_
 simp(disch:=omega)only[go_sem]
 refine qm (ca) ?_
 simp(disch:=omega)only[go_sem]
 refine qa (cg) ?_
 simp(disch:=omega)only[go_sem]
 refine qa (ch) ?_
 simp(disch:=omega)only[go_sem]
 refine qa (cv) ?_
 simp(disch:=omega)only[go_sem]
 refine qa (cm) ?_
 simp(disch:=omega)only[go_sem]
 refine qa (cr) ?_
 simp(disch:=omega)only[go_sem]
 refine qi (fun i:Nat=>[(4,.pt 2 0),(5,.pt 3 0),(7,.pt 4 0),(10,.pt 5 0),(11,.pt 0 0),(41,.sl F.length (ql SpV.cs F)),(42,.v (.int .i64 F.length)),(43,.v (.int .i64 i))])
  (fun i=>[(0,.own 0 [.v (.int .i64 n),.rf 1 0 i]),(1,.own 3 (ql ExV.cs (ajg F X i))),(2,.own 0 [.v (.int .i64 0),.v (.slice none 0 0)]),(3,.own 0 [.v (.bool false),.v (.slice none 0 0),.v (.int .i64 0)]),(4,.own 0 [.v (.int .i64 n),.sl F.length (ql SpV.cs F)]),(5,.own 0 [.v (.int .i64 n),.sl X.length (ql ExV.cs X)])])
  (fun i=>i≤F.length) (fun i=>F.length-i) 0 (by omega)
  ((Le.ghostC 130000000 1 1 3 (zo:=0) (cs:=[.v (.int .i64 n),.v (.slice none 0 0)]) (by simp(disch:=omega)only[go_sem]) rfl (by simp(disch:=omega)only[go_sem])).trans (Le.lst [(0,130000000),(2,60000000),(3,70000000),(4,90000000),(5,120000000)] _ _ rfl (by simp(disch:=omega)only[go_sem]) (by simp(disch:=omega)only[go_sem,show ajg F X 0=[] from rfl,ZW,List.set_cons_succ,List.set_cons_zero]))) ?_
 intro i hi
 simp(disch:=omega)only[go_sem]
 refine qe (fun h1=>?_) (fun h1=>?_)
 ·have hi2:i<F.length:=by omega
  have hci:=yN hi2
  have hcx:=zI (l:=X) (i:=i) (by omega)
  have hcut:=zG (y7 (F:=F) (X:=X) (k:=i))
  have hs:=aoZ (F:=F) (X:=X) (k:=i)
  have bs:=jA hFb hi2
  have bx:=qT hXb (show i<X.length by omega)
  have b2:=aoY (SpV.bd.mono bs (by omega) (by omega)) bx
  generalize F.getD i sp0=s at*
  generalize X.getD i ex0=x at*
  simp(disch:=omega)only[go_sem,h1,hci]
  refine⟨by omega,by omega,?_⟩
  refine qs rfl [⟨0,[],[]⟩,⟨1,[],[]⟩,⟨2,[1],[]⟩,⟨3,[1],[]⟩,⟨4,[1,3],[]⟩,⟨5,[1,3],[]⟩,⟨6,[1,3,5],[]⟩,⟨7,[1,3],[]⟩,⟨8,[1,3],[]⟩,⟨11,[1,3,5,8],[]⟩,⟨12,[1,3,5,8],[]⟩,⟨13,[1,3,5,8,12],[]⟩,⟨14,[1,3,5,8],[]⟩,⟨15,[1,3,5,8],[]⟩,⟨16,[1,3,5,8,12,15],[]⟩,⟨17,[1,3,5,8,12,15],[]⟩,⟨9,[1,12,15,17],[]⟩,⟨10,[1,12,15,17],[]⟩,⟨18,[1],[]⟩,⟨19,[1],[]⟩,⟨20,[1],[]⟩,⟨21,[1],[]⟩,⟨22,[1],[]⟩,⟨23,[],[]⟩,⟨24,[],[]⟩,⟨25,[],[]⟩] (by kernel_rfl) ?_
  simp(disch:=omega)only[go_sem,hcx]
  refine⟨by omega,by omega,by omega,by omega,?_⟩
  refine qa (QK s.hi x (bs.2.mono (by omega) (by omega)) (bx.mono (by omega) (by omega))) ?_
  simp(disch:=omega)only[go_sem]
  refine qa (YY (s.hi.plus x.neg)) ?_
  simp(disch:=omega)only[go_sem]
  refine qa (QK x s.lo (bx.mono (by omega) (by omega)) (bs.1.mono (by omega) (by omega))) ?_
  simp(disch:=omega)only[go_sem]
  refine qa (YY (x.plus s.lo.neg)) ?_
  simp(disch:=omega)only[go_sem]
  generalize (s.hi.plus x.neg).abs=A at*
  generalize (x.plus s.lo.neg).abs=B at*
  have hrow:([.v (.bool A.s),.sl (lim A.m).length (qc (lim A.m)),.v (.int .i64 A.e),.v (.bool B.s),.sl (lim B.m).length (qc (lim B.m)),.v (.int .i64 B.e)]:List AV)=ql ExV.cs [A,B]:=rfl
  rw[hrow]
  refine q8 false [700000000] (aam [A,B] (by simp) (by simp) (qQ b2 (by omega) (by omega))) (by simp(disch:=omega)only[go_sem]) (by simp(disch:=omega)only[go_sem]) rfl (qS (z:=3) (cs:=ql ExV.cs [A,B]) (by simp(disch:=omega)only[go_sem]) (by simp(disch:=omega)only[go_sem])) (by intro n hn;exact⟨_,List.mem_cons_self ..,by rw[List.mem_singleton.1 hn];rfl⟩) ?_
  rintro r hs2 bs2 ⟨rfl,rfl,rfl⟩-
  refine⟨by simp[qN],?_⟩
  simp(disch:=omega)only[go_sem,hcut,Qh]
  refine⟨⟨by rw[y7];exact Nat.le_refl _,by omega⟩,qb (i+1) [(1,730000000)] (by show i+1≤_;omega) (by show F.length-(i+1)<F.length-i;omega) rfl (by simp(disch:=omega)only[go_sem];try omega) (by simp(disch:=omega)only[go_sem,hs])⟩
 ·simp(disch:=omega)only[go_sem,h1]
  obtain rfl:i=F.length:=by omega
  have hol:=y7 (F:=F) (X:=X) (k:=n*n)
  rw[hF]
  generalize ajg F X (n*n)=O at*
  rw[hol]at cno
  refine aLN (E:=[(4,.pt 2 0),(5,.pt 3 0),(10,.pt 5 0),(11,.pt 0 0)]) (H:=[(0,.own 0 [.v (.int .i64 n),.sl (n*n) (ql ExV.cs O)]),(2,.own 0 [.v (.int .i64 0),.v (.slice none 0 0)]),(3,.own 0 [.v (.bool false),.v (.slice none 0 0),.v (.int .i64 0)]),(5,.own 0 [.v (.int .i64 n),.sl X.length (ql ExV.cs X)])])
   ((Le.frz 1 (z:=3) (ks:=ql ExV.cs O) (by simp(disch:=omega)only[go_sem]) rfl (by simp(disch:=omega)only[go_sem])).trans (Le.lst [] _ _ rfl (by simp(disch:=omega)only[go_sem]) (by simp(disch:=omega)only[go_sem,zG hol]))) ?_
  refine qs rfl [⟨0,[],[]⟩,⟨1,[0],[]⟩,⟨2,[0],[]⟩,⟨3,[],[]⟩,⟨4,[],[]⟩,⟨5,[],[]⟩,⟨6,[],[]⟩,⟨7,[],[]⟩,⟨8,[],[]⟩,⟨9,[],[]⟩] (by kernel_rfl) ?_
  simp(disch:=omega)only[go_sem]
  refine qa (cno) ?_
  simp(disch:=omega)only[go_sem]
  cases hc:(X.all ExV.fit&&far.fit)
  ·rw[hc,if_neg (by simp)]at cw
   rw[if_neg (by simp)]
   refine qa (cw) ?_
   simp(disch:=omega)only[go_sem]
   exact qk (hp:=by simp(disch:=omega)only[go_sem,qo,List.length_nil,zX])
  ·rw[hc,if_pos rfl]at cw
   rw[if_pos rfl]
   refine qa (cw) ?_
   simp(disch:=omega)only[go_sem]
   exact qk
theorem aat(n:Nat)(h1:n=1):Con Tryz.prog 146 true [.ag [.v (.int .i64 (n)),.sl ([ex0]).length (ql ExV.cs ([ex0]))],.v (.int .i64 (-10))] [] (isA (.v (.bool true))):=by
 have cm:=JZ n [ex0] (by decide) (by intro x hx;rw[List.mem_singleton.1 hx];show(lim 0).length≤_;rw[qo];decide)
 have hm:aKx n [ex0]=true:=by
  rw[h1];unfold aKx;rw[List.all_cons,List.all_nil,show ex0.ok=true by show dyB false (lim 0) 0=true;rw[qo];decide];decide
 rw[hm]at cm
 have cg:=zv n [ex0] (by decide)
 have cn:=YR n [ex0] (by omega) (by rw[h1];rfl) (by decide+kernel)
 rw[show yi n [ex0] n=ex0 by rw[h1];decide+kernel]at cn
 have cc:=Zk ex0 (exN 64) (by decide+kernel) (by decide+kernel)
 rw[show ex0.cmp (exN 64)= -1 by decide+kernel]at cc
 have q:decide ((-1:Int)≤0)=true:=rfl
 have q1:(decide ((-120:Int)≤ -10)&&decide ((-10:Int)≤0))=true:=rfl
 have cwi:=zJ (-10) (-120) 0
 rw[q1]at cwi
 refine Con.of_w (rs:=[.tmp 4]) Tryz.func146 rfl Tryz.ntmps146 rfl ?_
 simp(disch:=omega)only[go_sem]
 refine qm (cm) ?_
 simp(disch:=omega)only[go_sem]
 refine qm (cwi) ?_
 simp(disch:=omega)only[go_sem]
 refine qa (cg) ?_
 simp(disch:=omega)only[go_sem]
 refine qa (cn) ?_
 simp(disch:=omega)only[go_sem]
 refine qa (zy 64 (by omega)) ?_
 simp(disch:=omega)only[go_sem]
 refine qD cc (by simp(disch:=omega)only[go_sem,exN]) ?_
 rintro r hs ⟨rfl,rfl,_⟩
 refine⟨by simp[qN],?_⟩
 simp(disch:=omega)only[go_sem,q]
 exact qx
end Go.Ab
namespace Go.Ab
open Go Go.Proofs
theorem jN(cl:Bool)(xs:List Int)(m:Nat)(hl:xs.length≤2^39)(hx:gd xs)(hv:vl xs=(m:Int)):Con Tryz.prog 276 cl [.sl xs.length (qc xs)] [] (aKo m):=by
 refine Con.of_aw Tryz.func276 rfl Tryz.ntmps276 (by simp) (by simp) (by simp) (W.sound ?_)
 show @W Tryz.prog 24 ⟨_⟩ ⟨fun x σ=>@za _ _ _ ⟨_⟩ _ ⟨_⟩ x σ⟩ _ _
 simp(disch:=omega)only[go_sem]
 have hcz:Z2 xs=lim m:=by rw[zY hx,hv,Int.toNat_natCast]
 refine qi (fun k:Nat=>[(0,.sl xs.length (qc xs)),(2,.pt 40000000 0),(3,.v (.int .i64 k))]) (fun _=>[(40000000,.own 0 [.v (.slice none 0 0)])]) (fun k=>k≤xs.length∧Z2 (xs.take k)=Z2 xs) id xs.length ⟨Nat.le_refl _,by simp⟩
  (Le.lst [] _ _ rfl (by simp(disch:=omega)only[go_sem]) (by simp(disch:=omega)only[go_sem])) ?_
 intro k ⟨hk,hc⟩
 have hkx:∀j,j+1=k→xs.take k=xs.take j++[xs.getD j 0]:=fun j hj=>by rw[←hj];exact jF (by omega)
 simp(disch:=omega)only[go_sem]
 refine qe (fun h1=>?_) (fun h1=>?_)
 ·obtain⟨j,rfl⟩:∃j,k=j+1:=⟨k-1,by omega⟩
  have e1:((j+1:Nat):Int)-1=(j:Nat):=by omega
  rw[hkx j rfl]at hc
  simp(disch:=omega)only[go_sem,h1,e1]
  refine⟨by omega,by omega,qe (fun h2=>?_) (fun h2=>?_)⟩
  ·simp(disch:=omega)only[go_sem,h2,e1]
   rw[h2,Qi]at hc
   exact qb j [] ⟨by omega,hc⟩ (by show j<j+1;omega) rfl (by simp(disch:=omega)only[go_sem];try omega) (by simp(disch:=omega)only[go_sem])
  ·rw[YL _ h2,←hkx j rfl,hcz]at hc
   have hlm:j+1=(lim m).length:=by rw[←hc,List.length_take];omega
   have e0:(((j+1:Nat):Int)-0).toNat=(lim m).length:=by omega
   rw[hlm]at hc
   simp(disch:=omega)only[go_sem,h2,e0,hc]
   refine⟨by omega,by omega,?_⟩
   refine qg [(0,240000000)] [.own 1 (qc (lim m))] [] [.ag [.rf 0 0 (lim m).length]] rfl (by simp(disch:=omega)only[go_sem]) (by simp(disch:=omega)only[go_sem]) (by simp) (by intro _;simp[zj,AV.pu,AV.pu.puL,Ob.pu,q7]) (.inr ⟨[],rfl,by rw[List.append_nil]⟩)
 ·have hlm:k=(lim m).length:=by
   have:k=0:=by omega
   rw[←hcz,←hc,this];rfl
  subst hlm
  have hc:xs.take (lim m).length=lim m:=by
   have:lim m=[]:=List.length_eq_zero_iff.1 (by omega)
   rw[this];simp
  have e0:(((lim m).length:Int)-0).toNat=(lim m).length:=by omega
  simp(disch:=omega)only[go_sem,h1,e0,hc]
  refine⟨by omega,by omega,?_⟩
  refine qg [(0,240000000)] [.own 1 (qc (lim m))] [] [.ag [.rf 0 0 (lim m).length]] rfl (by simp(disch:=omega)only[go_sem]) (by simp(disch:=omega)only[go_sem]) (by simp) (by intro _;simp[zj,AV.pu,AV.pu.puL,Ob.pu,q7]) (.inr ⟨[],rfl,by rw[List.append_nil]⟩)
theorem YT(cl:Bool)(n:Nat)(hn:n<2^63):Con Tryz.prog 259 cl [.v (.int .i64 n)] [] (aKo n):=by
 refine Con.of_aw Tryz.func259 rfl Tryz.ntmps259 (by simp) (by simp) (by simp) (W.sound ?_)
 show @W Tryz.prog 15 ⟨_⟩ ⟨fun x σ=>@za _ _ _ ⟨_⟩ _ ⟨_⟩ x σ⟩ _ _
 simp(disch:=omega)only[go_sem]
 refine qi (fun x:Nat×List Int=>[(0,.v (.int .i64 x.1)),(2,.pt 2 0),(3,.rf 1 0 x.2.length)]) (fun x=>[(1,.own 1 (qc x.2)),(2,.own 0 [.v (.slice none 0 0)])]) (fun x=>x.1<2^63∧x.2++lim x.1=lim n) (fun x=>x.1) (n,[]) ⟨hn,rfl⟩
  ((Le.ghost 3 1 1 (by simp(disch:=omega)only[go_sem]) (by simp(disch:=omega)only[go_sem])).trans (Le.lst [(2,40000000)] _ _ rfl (by simp(disch:=omega)only[go_sem]) (by simp(disch:=omega)only[go_sem]))) ?_
 rintro⟨k,l⟩ ⟨hk,hl⟩
 dsimp only at hk hl ⊢
 have hlen:l.length≤4:=by
  have h1:=congrArg List.length hl
  have h2:=jB (n:=n) (k:=4) |>.2 (by omega)
  rw[List.length_append]at h1;omega
 simp(disch:=omega)only[go_sem]
 refine qe (fun h1=>?_) (fun h1=>?_)
 ·simp(disch:=omega)only[go_sem,h1]
  have hk0:k≠0:=by omega
  refine⟨by omega,qb (k/65536,l++[(k:Int) % 65536]) [(1,120000000)] ⟨by show k/65536<2^63;omega,?_⟩ (by show k/65536<k;omega) rfl (by simp(disch:=omega)only[go_sem,List.length_append];try omega) (by simp(disch:=omega)only[go_sem])⟩
  rw[jY hk0]at hl
  rw[←hl,List.append_assoc];rfl
 ·simp(disch:=omega)only[go_sem,h1]
  have hk0:k=0:=by omega
  subst hk0
  rw[qo,List.append_nil]at hl
  subst hl
  refine qg [(0,1)] [.own 1 (qc (lim n++[]))] [] [.ag [.rf 0 0 (lim n).length]] rfl (by simp(disch:=omega)only[go_sem]) (by simp(disch:=omega)only[go_sem]) (by simp) (by intro _;simp[zj,AV.pu,AV.pu.puL,Ob.pu,q7]) (.inr ⟨[],rfl,rfl⟩)
end Go.Ab
namespace Go.Ab
open Go Go.Proofs
set_option maxRecDepth 100000 in
theorem aqA(cl:Bool)(a b:Nat)(la:(lim a).length≤2000000)(lb:(lim b).length≤2000000):Con Tryz.prog 258 cl [.ag [.sl (lim (a)).length (qc (lim (a)))],.ag [.sl (lim (b)).length (qc (lim (b)))]] [] (aKo (a+b)):=by
 refine Con.of_aw Tryz.func258 rfl Tryz.ntmps258 (by simp) (by simp) (by simp) (W.sound ?_)
 show @W Tryz.prog 61 ⟨_⟩ ⟨fun x σ=>@za _ _ _ ⟨_⟩ _ ⟨_⟩ x σ⟩ _ _
 simp(disch:=omega)only[go_sem]
 have hA:=zf a
 have hB:=zf b
 refine qi (fun x:Nat×List Int×Int=>[(2,.pt 3 0),(3,.pt 4 0),(4,.pt 2 0),(5,.rf 1 0 x.2.1.length),(6,.v (.int .i64 x.2.2)),(7,.v (.int .i64 x.1))])
  (fun x=>[(1,.own 1 (qc x.2.1)),(2,.own 0 [.v (.slice none 0 0)]),(3,.own 0 [.sl (lim (a)).length (qc (lim (a)))]),(4,.own 0 [.sl (lim (b)).length (qc (lim (b)))])])
  (fun x=>x.1≤max (lim a).length (lim b).length+1∧x.2.1.length=x.1∧gd x.2.1∧(0≤x.2.2∧x.2.2≤1)∧vl x.2.1+65536^x.1*x.2.2=vl ((lim a).take x.1)+vl ((lim b).take x.1)∧(max (lim a).length (lim b).length<x.1→x.2.2=0))
  (fun x=>2*(max (lim a).length (lim b).length-x.1)+x.2.2.toNat) (0,[],0) ⟨by simp,rfl,JK,by simp,by simp[vl],fun h=>rfl⟩
  ((Le.ghost 5 1 1 (by simp(disch:=omega)only[go_sem]) (by simp(disch:=omega)only[go_sem])).trans (Le.lst [(2,60000000),(3,40000000),(4,50000000)] _ _ rfl (by simp(disch:=omega)only[go_sem]) (by simp(disch:=omega)only[go_sem]))) ?_
 rintro⟨i,out,cy⟩ ⟨hi,hol,hog,hcy,hov,hcz⟩
 dsimp only at hi hol hog hcy hov hcz ⊢
 have hx:=qK hA i
 have hy:=qK hB i
 have hxz:¬(i:Int)<(lim a).length→(lim a).getD i 0=0:=fun h=>by rw[List.getD_eq_getElem?_getD,List.getElem?_eq_none (by omega)];rfl
 have hyz:¬(i:Int)<(lim b).length→(lim b).getD i 0=0:=fun h=>by rw[List.getD_eq_getElem?_getD,List.getElem?_eq_none (by omega)];rfl
 have hstep:∀q:Int,q=cy+(lim a).getD i 0+(lim b).getD i 0→vl (out++[q % 65536])+65536^(i+1)*(q/65536)=vl ((lim a).take (i+1))+vl ((lim b).take (i+1)):=by
  intro q hq
  rw[jz,q6,q6,hol,Int.pow_succ]
  have e3:q % 65536+65536*(q/65536)=q:=Int.emod_add_mul_ediv q 65536
  generalize (65536:Int)^i=Pi at*
  grind
 have key:∀q:Int,q=cy+(lim a).getD i 0+(lim b).getD i 0→(i:Int)<(lim a).length∨(i:Int)<(lim b).length∨0<cy→
   ((i+1≤max (lim a).length (lim b).length+1∧(out++[q % 65536]).length=i+1∧gd (out++[q % 65536])∧(0≤q/65536∧q/65536≤1)∧vl (out++[q % 65536])+65536^(i+1)*(q/65536)=vl ((lim a).take (i+1))+vl ((lim b).take (i+1))∧(max (lim a).length (lim b).length<i+1→q/65536=0))∧
   2*(max (lim a).length (lim b).length-(i+1))+(q/65536).toNat<2*(max (lim a).length (lim b).length-i)+cy.toNat):=by
  intro q hq hc
  have hle:i≤max (lim a).length (lim b).length:=by
   rcases Nat.lt_or_ge (max (lim a).length (lim b).length) i with h|h
   ·have:=hcz h;omega
   ·exact h
  have hbig:max (lim a).length (lim b).length<i+1→q/65536=0:=fun h=>by
   have:=hxz (by omega)
   have:=hyz (by omega)
   omega
  refine⟨⟨by omega,by simp[hol],qL.2 ⟨hog,jr.2 (by omega)⟩,by omega,hstep q hq,hbig⟩,?_⟩
  by_cases hm:max (lim a).length (lim b).length<i+1
  ·have:=hbig hm;omega
  ·omega
 by_cases h1:(i:Int)<(lim a).length<;>by_cases h2:(i:Int)<(lim b).length
 ·simp(disch:=omega)only[go_sem,h1,h2]
  obtain⟨k1,k2⟩:=key _ rfl (.inl h1)
  refine⟨by omega,by omega,by omega,by omega,by omega,qb (i+1,out++[(cy+(lim a).getD i 0+(lim b).getD i 0) % 65536],(cy+(lim a).getD i 0+(lim b).getD i 0)/65536) [(1,580000000)] k1 k2 rfl (by simp(disch:=omega)only[go_sem,List.length_append];try omega) (by simp(disch:=omega)only[go_sem])⟩
 ·simp(disch:=omega)only[go_sem,h1,h2]
  have e0:cy+(lim a).getD i 0=cy+(lim a).getD i 0+(lim b).getD i 0:=by rw[hyz h2];omega
  obtain⟨k1,k2⟩:=key (cy+(lim a).getD i 0) e0 (.inl h1)
  refine⟨by omega,by omega,by omega,qb (i+1,out++[(cy+(lim a).getD i 0) % 65536],(cy+(lim a).getD i 0)/65536) [(1,580000000)] k1 k2 rfl (by simp(disch:=omega)only[go_sem,List.length_append];try omega) (by simp(disch:=omega)only[go_sem])⟩
 ·simp(disch:=omega)only[go_sem,h1,h2]
  have e0:cy+(lim b).getD i 0=cy+(lim a).getD i 0+(lim b).getD i 0:=by rw[hxz h1];omega
  obtain⟨k1,k2⟩:=key (cy+(lim b).getD i 0) e0 (.inr (.inl h2))
  refine⟨by omega,by omega,by omega,qb (i+1,out++[(cy+(lim b).getD i 0) % 65536],(cy+(lim b).getD i 0)/65536) [(1,580000000)] k1 k2 rfl (by simp(disch:=omega)only[go_sem,List.length_append];try omega) (by simp(disch:=omega)only[go_sem])⟩
 ·by_cases h3:0<cy
  ·simp(disch:=omega)only[go_sem,h1,h2,h3]
   have e0:cy=cy+(lim a).getD i 0+(lim b).getD i 0:=by rw[hxz h1,hyz h2];omega
   obtain⟨k1,k2⟩:=key cy e0 (.inr (.inr h3))
   refine⟨by omega,qb (i+1,out++[cy % 65536],cy/65536) [(1,580000000)] k1 k2 rfl (by simp(disch:=omega)only[go_sem,List.length_append];try omega) (by simp(disch:=omega)only[go_sem])⟩
  ·have hcy0:cy=0:=by omega
   have hov2:vl out=((a+b:Nat):Int):=by
    rw[List.take_of_length_le (by omega),List.take_of_length_le (by omega),ze,ze,hcy0]at hov
    simp at hov;omega
   simp(disch:=omega)only[go_sem,h1,h2,h3]
   refine qD (jN true out (a+b) (by omega) hog hov2) (by simp(disch:=omega)only[go_sem]) ?_
   rintro r hs (⟨h0,rfl,rfl⟩|⟨zs,rfl,rfl⟩)
   ·refine⟨⟨by simp,by simp(disch:=omega)only[go_sem]⟩,?_⟩
    simp(disch:=omega)only[go_sem]
    refine qg [] [] [] [.ag [.v (.slice none 0 0)]] rfl (by simp(disch:=omega)only[go_sem]) (by simp(disch:=omega)only[go_sem]) (by simp) (by intro _;simp[zj,AV.pu,AV.pu.puL,Ob.pu,q7]) (.inl ⟨h0,rfl,rfl⟩)
   ·refine⟨⟨by simp,by simp(disch:=omega)only[go_sem]⟩,?_⟩
    simp(disch:=omega)only[go_sem]
    refine qg [(0,620000000)] [.own 1 (qc (lim (a+b)++zs))] [] [.ag [.rf 0 0 (lim (a+b)).length]] rfl (by simp(disch:=omega)only[go_sem]) (by simp(disch:=omega)only[go_sem]) (by simp) (by intro _;simp[zj,AV.pu,AV.pu.puL,Ob.pu,q7]) (.inr ⟨zs,rfl,rfl⟩)
end Go.Ab
namespace Go.Ab
open Go Go.Proofs
set_option maxRecDepth 100000 in
theorem ajO(cl:Bool)(A:List Int)(hA:gd A)(b:Nat)(lA:A.length≤1000000)(lB:(lim b).length≤1000000)(m:Nat)(hm:vl A*(b:Int)=(m:Int)):
  Con Tryz.prog 273 cl [.ag [.sl A.length (qc A)],.ag [.sl (lim (b)).length (qc (lim (b)))]] [] (aKo m):=by
 refine Con.of_aw Tryz.func273 rfl Tryz.ntmps273 (by simp) (by simp) (by simp) (W.sound ?_)
 show @W Tryz.prog 80 ⟨_⟩ ⟨fun x σ=>@za _ _ _ ⟨_⟩ _ ⟨_⟩ x σ⟩ _ _
 have hvb:=ze b
 have hB:=zf b
 generalize lim b=B at*
 simp(disch:=omega)only[go_sem]
 refine⟨by omega,?_⟩
 refine qi (fun x:Nat×List Int=>[(2,.pt 0 0),(3,.pt 1 0),(4,.pt 2 0),(5,.rf 3 0 (A.length+B.length)),(6,.v (.int .i64 x.1))])
  (fun x=>[(0,.own 0 [.sl A.length (qc A)]),(1,.own 0 [.sl B.length (qc B)]),(2,.own 0 [.v (.slice none 0 0)]),(3,.own 1 (qc x.2))])
  (fun x=>x.1≤A.length∧x.2.length=A.length+B.length∧gd x.2∧vl x.2=vl (A.take x.1)*vl B∧∀j,x.1+B.length≤j→x.2.getD j 0=0)
  (fun x=>A.length-x.1) (0,List.replicate (A.length+B.length) 0) ⟨by simp,by simp,zk _,by simp[zL,vl],fun j _=>by
   rw[List.getD_eq_getElem?_getD,List.getElem?_replicate];split<;>rfl⟩
  (Le.lst [(0,40000000),(1,50000000),(2,60000000),(3,190000000)] _ _ rfl (by simp(disch:=omega)only[go_sem];try omega) (by simp(disch:=omega)only[go_sem,show((A.length:Int)+(B.length:Int)).toNat=A.length+B.length by omega])) ?_
 rintro⟨i,out⟩ ⟨hi,hol,hog,hov,hoz⟩
 dsimp only at hi hol hog hov hoz ⊢
 simp(disch:=omega)only[go_sem]
 refine qe (fun h1=>?_) (fun h1=>?_)
 ·have hx:=qK hA i
  simp(disch:=omega)only[go_sem,h1]
  refine qi (fun x:Nat×List Int×Int=>[(2,.pt 0 0),(3,.pt 1 0),(4,.pt 2 0),(5,.rf 3 0 (A.length+B.length)),(6,.v (.int .i64 i)),(7,.v (.int .i64 x.2.2)),(8,.v (.int .i64 x.1))])
   (fun x=>[(0,.own 0 [.sl A.length (qc A)]),(1,.own 0 [.sl B.length (qc B)]),(2,.own 0 [.v (.slice none 0 0)]),(3,.own 1 (qc x.2.1))])
   (fun x=>x.1≤B.length∧x.2.1.length=A.length+B.length∧gd x.2.1∧(0≤x.2.2∧x.2.2<65536)∧vl x.2.1+65536^(i+x.1)*x.2.2=vl out+65536^i*(A.getD i 0*vl (B.take x.1))∧∀j,i+B.length≤j→x.2.1.getD j 0=0)
   (fun x=>B.length-x.1) (0,out,0) ⟨by simp,hol,hog,by simp,by simp[vl],hoz⟩
   (Le.lst [] _ _ rfl (by simp(disch:=omega)only[go_sem];try omega) (by simp(disch:=omega)only[go_sem])) ?_
  rintro⟨j,o2,cy⟩ ⟨hj,hol2,hog2,hcy,hov2,hoz2⟩
  dsimp only at hj hol2 hog2 hcy hov2 hoz2 ⊢
  simp(disch:=omega)only[go_sem]
  refine qe (fun h2=>?_) (fun h2=>?_)
  ·have hy:=qK hB j
   have ho:=qK hog2 (i+j)
   have hxy:=apc hx hy
   have e1:((i:Int)+(j:Int)).toNat=i+j:=by omega
   simp(disch:=omega)only[go_sem,h2]
   refine qs rfl [⟨0,[],[]⟩,⟨1,[],[]⟩,⟨2,[],[]⟩,⟨3,[],[]⟩,⟨4,[],[]⟩,⟨5,[],[]⟩,⟨6,[5],[]⟩,⟨7,[5],[]⟩,⟨8,[5,7],[]⟩,⟨9,[5],[]⟩,⟨10,[5],[]⟩,⟨11,[5,7,10],[]⟩,⟨12,[5,7,10],[]⟩,⟨13,[5,7,10,12],[]⟩,⟨14,[5,7,10],[]⟩,⟨15,[5,7,10],[]⟩,⟨16,[5],[]⟩,⟨17,[],[]⟩,⟨18,[5,7,10,12,15],[]⟩,⟨19,[],[]⟩,⟨20,[],[]⟩] (by kernel_rfl) ?_
   simp(disch:=omega)only[go_sem,e1]
   generalize hq:o2.getD (i+j) 0+A.getD i 0*B.getD j 0+cy=q
   refine⟨by omega,by omega,by omega,by omega,by omega,by omega,by omega,by omega,qb (j+1,o2.set (i+j) (q % 65536),q/65536) [] ⟨by show j+1≤_;omega,by simp[hol2],yK hog2 (by omega),by show 0≤q/65536∧q/65536<65536;omega,?_,fun k hk=>?_⟩
    (by show B.length-(j+1)<B.length-j;omega) rfl (by simp(disch:=omega)only[go_sem];try omega) (by simp(disch:=omega)only[go_sem])⟩
   ·show vl (o2.set (i+j) (q % 65536))+65536^(i+(j+1))*(q/65536)=vl out+65536^i*(A.getD i 0*vl (B.take (j+1)))
    rw[QO (by omega),z7 (by omega),←Nat.add_assoc,Int.pow_succ]
    have e2:(65536:Int)^(i+j)=65536^i*65536^j:=Int.pow_add _ _ _
    have e3:q % 65536+65536*(q/65536)=q:=Int.emod_add_mul_ediv q 65536
    rw[e2]at hov2 ⊢
    generalize (65536:Int)^i=Pi at*
    generalize (65536:Int)^j=Pj at*
    grind
   ·show(o2.set (i+j) (q % 65536)).getD k 0=0
    rw[List.getD_eq_getElem?_getD,List.getElem?_set_ne (by omega),←List.getD_eq_getElem?_getD]
    exact hoz2 k hk
  ·simp(disch:=omega)only[go_sem,h2]
   have e1:((i:Int)+(B.length:Int)).toNat=i+B.length:=by omega
   have hjB:j=B.length:=by omega
   subst hjB
   rw[List.take_length]at hov2
   have hz:=hoz2 (i+B.length) (Nat.le_refl _)
   refine qs rfl [⟨0,[],[]⟩,⟨1,[],[]⟩,⟨2,[],[]⟩,⟨3,[],[]⟩,⟨4,[],[]⟩,⟨5,[],[]⟩,⟨6,[3],[]⟩,⟨7,[3],[]⟩,⟨8,[3],[]⟩,⟨9,[3],[]⟩,⟨10,[3],[]⟩,⟨11,[3],[]⟩,⟨12,[3],[]⟩,⟨13,[3],[]⟩,⟨14,[3,9,13],[]⟩,⟨15,[3],[]⟩,⟨16,[],[]⟩,⟨17,[],[]⟩] (by kernel_rfl) ?_
   simp(disch:=omega)only[go_sem,e1,hz]
   have e0:(0:Int)+cy=cy:=by omega
   refine⟨by omega,by omega,by omega,by omega,qb (i+1,o2.set (i+B.length) cy) [] ⟨by show i+1≤_;omega,by simp[hol2],yK hog2 hcy,?_,fun k hk=>?_⟩ (by show A.length-(i+1)<A.length-i;omega) rfl (by simp(disch:=omega)only[go_sem];try omega) (by simp(disch:=omega)only[go_sem,e0])⟩
   ·show vl (o2.set (i+B.length) cy)=vl (A.take (i+1))*vl B
    rw[QO (by omega),hz,z7 (by omega)]
    generalize (65536:Int)^i=Pi at*
    grind
   ·show(o2.set (i+B.length) cy).getD k 0=0
    rw[List.getD_eq_getElem?_getD,List.getElem?_set_ne (by show i+B.length≠k;omega),←List.getD_eq_getElem?_getD]
    exact hoz2 k (by omega)
 ·simp(disch:=omega)only[go_sem,h1]
  have hiA:i=A.length:=by omega
  subst hiA
  rw[List.take_length,hvb,hm]at hov
  rw[←hol]
  refine qD (jN true (out) (m) (by omega) (hog) (hov)) (by simp(disch:=omega)only[go_sem]) ?_
  rintro r hs (⟨h0,rfl,rfl⟩|⟨zs,rfl,rfl⟩)
  ·refine⟨⟨by simp,by simp(disch:=omega)only[go_sem]⟩,?_⟩
   simp(disch:=omega)only[go_sem]
   refine qg [] [] [] [.ag [.v (.slice none 0 0)]] rfl (by simp(disch:=omega)only[go_sem]) (by simp(disch:=omega)only[go_sem]) (by simp) (by intro _;simp[zj,AV.pu,AV.pu.puL,Ob.pu,q7]) (.inl ⟨h0,rfl,rfl⟩)
  ·refine⟨⟨by simp,by simp(disch:=omega)only[go_sem]⟩,?_⟩
   simp(disch:=omega)only[go_sem]
   refine qg [(0,810000000)] [.own 1 (qc (lim (m)++zs))] [] [.ag [.rf 0 0 (lim (m)).length]] rfl (by simp(disch:=omega)only[go_sem]) (by simp(disch:=omega)only[go_sem]) (by simp) (by intro _;simp[zj,AV.pu,AV.pu.puL,Ob.pu,q7]) (.inr ⟨zs,rfl,rfl⟩)
end Go.Ab
namespace Go.Ab
open Go Go.Proofs
def aOW(m:Nat)(r0:Int):AV→List Ob→List Ob→Prop:=fun r hs bs=>
 (m=0∧r=.tu [.ag [.v (.slice none 0 0)],.v (.int .i64 r0)]∧hs=[])∨∃zs,r=.tu [.ag [.rf 0 0 (lim m).length],.v (.int .i64 r0)]∧hs=[.own 1 (qc (lim m++zs))]
theorem Con.natF2{P:Program}{f:FuncId}{args:List AV}{m:Nat}{r0:Int}(h:Con P f false args [] (aOW m r0)):Con P f false args [] (isA (.tu [.ag [.sl (lim (m)).length (qc (lim (m)))],.v (.int .i64 r0)])):=
 Con.frzA <| h.mono fun r hs bs h=>by
  rcases h with⟨rfl,rfl,rfl⟩|⟨zs,rfl,rfl⟩
  ·show qF _ 6 _=_
   rw[qo];rfl
  ·show qF _ 6 _=_
   rw[Yc,List.map_cons,List.map_cons,List.map_nil,adx,List.map_cons,List.map_nil,jR (k:=2) (l:=lim m) (zs:=zs) q9 rfl]
   rfl
theorem aap(cl:Bool)(A:List Int)(d:Nat)(hA:gd A)(lA:A.length≤1000000)(hd:0<d)(hd2:d<65536)(m:Nat)(hm:vl A/(d:Int)=(m:Int)):
  Con Tryz.prog 279 cl [.ag [.sl A.length (qc A)],.v (.int .i64 d)] [] (aOW m (vl A % d)):=by
 refine Con.of_aw Tryz.func279 rfl Tryz.ntmps279 (by simp) (by simp) (by simp) (W.sound ?_)
 show @W Tryz.prog 42 ⟨_⟩ ⟨fun x σ=>@za _ _ _ ⟨_⟩ _ ⟨_⟩ x σ⟩ _ _
 simp(disch:=omega)only[go_sem]
 refine⟨by omega,?_⟩
 refine qi (fun x:Nat×List Int×Int=>[(1,.v (.int .i64 d)),(2,.pt 0 0),(4,.pt 1 0),(6,.rf 2 0 A.length),(7,.v (.int .i64 x.2.2)),(8,.v (.int .i64 ((x.1:Int)-1)))])
  (fun x=>[(0,.own 0 [.sl A.length (qc A)]),(1,.own 0 [.v (.slice none 0 0)]),(2,.own 1 (qc x.2.1))])
  (fun x=>x.1≤A.length∧x.2.1.length=A.length∧gd x.2.1∧x.2.2=vl (A.drop x.1) % d∧vl (x.2.1.drop x.1)=vl (A.drop x.1)/d)
  (fun x=>x.1) (A.length,List.replicate A.length 0,0) ⟨Nat.le_refl _,by simp,zk _,by simp[vl],by simp[vl]⟩
  (Le.lst [(0,40000000),(1,60000000),(2,150000000)] _ _ rfl (by simp(disch:=omega)only[go_sem,List.length_replicate];try omega) (by simp(disch:=omega)only[go_sem])) ?_
 rintro⟨k,out,rest⟩ ⟨hk,hol,hog,hr,hov⟩
 dsimp only at hk hol hog hr hov ⊢
 have hr0:0≤rest∧rest<d:=by rw[hr];exact⟨Int.emod_nonneg _ (by omega),Int.emod_lt_of_pos _ (by omega)⟩
 simp(disch:=omega)only[go_sem]
 refine qe (fun h1=>?_) (fun h1=>?_)
 ·obtain⟨i,rfl⟩:∃i,k=i+1:=⟨k-1,by omega⟩
  have ei:((i+1:Nat):Int)-1=(i:Nat):=by omega
  have hx:=qK hA i
  have hq6:0≤(rest*65536+A.getD i 0)/d∧(rest*65536+A.getD i 0)/d<65536:=by
   refine⟨Int.ediv_nonneg (by omega) (by omega),Int.ediv_lt_of_lt_mul (by omega) ?_⟩
   have:rest+1≤(d:Int):=by omega
   have:=Int.mul_le_mul_of_nonneg_left this (show(0:Int)≤65536 by omega)
   omega
  simp(disch:=omega)only[go_sem,h1,ei]
  generalize hq:rest*65536+A.getD i 0=q at*
  refine⟨by omega,by omega,by omega,by omega,by omega,by omega,qb (i,out.set i (q/d),q % d) [] ⟨by show i≤_;omega,by simp[hol],yK hog hq6,?_,?_⟩ (by show i<i+1;omega) rfl (by simp(disch:=omega)only[go_sem];try omega) (by simp(disch:=omega)only[go_sem])⟩
  ·show q % d=vl (A.drop i) % d
   rw[zA (l:=A) (i:=i) (by omega),←hq,hr]
   have h3:=Int.emod_add_mul_ediv (vl (A.drop (i+1))) d
   rw[show A.getD i 0+65536*vl (A.drop (i+1))=vl (A.drop (i+1)) % d*65536+A.getD i 0+d*(65536*(vl (A.drop (i+1))/d)) by grind,Int.add_mul_emod_self_left]
  ·show vl ((out.set i (q/d)).drop i)=vl (A.drop i)/d
   rw[drop_set (by omega),vl,hov,zA (l:=A) (i:=i) (by omega),←hq,hr]
   have h3:=Int.emod_add_mul_ediv (vl (A.drop (i+1))) d
   rw[show A.getD i 0+65536*vl (A.drop (i+1))=vl (A.drop (i+1)) % d*65536+A.getD i 0+d*(65536*(vl (A.drop (i+1))/d)) by grind,Int.add_mul_ediv_left _ _ (by omega)]
 ·simp(disch:=omega)only[go_sem,h1]
  have:k=0:=by omega
  subst this
  rw[List.drop_zero,List.drop_zero,hm]at hov
  rw[List.drop_zero]at hr
  rw[←hol]
  refine qD (jN true out m (by omega) hog hov) (by simp(disch:=omega)only[go_sem]) ?_
  rintro r hs (⟨h0,rfl,rfl⟩|⟨zs,rfl,rfl⟩)
  ·refine⟨⟨by simp,by simp(disch:=omega)only[go_sem]⟩,?_⟩
   simp(disch:=omega)only[go_sem]
   rw[hr]
   refine qg [] [] [] [.ag [.v (.slice none 0 0)],.v (.int .i64 (vl A % d))] rfl (by simp(disch:=omega)only[go_sem]) (by simp(disch:=omega)only[go_sem]) (by simp) (by intro _;simp[zj,AV.pu,AV.pu.puL,Ob.pu,q7]) (.inl ⟨h0,rfl,rfl⟩)
  ·refine⟨⟨by simp,by simp(disch:=omega)only[go_sem]⟩,?_⟩
   simp(disch:=omega)only[go_sem]
   rw[hr]
   refine qg [(0,420000000)] [.own 1 (qc (lim m++zs))] [] [.ag [.rf 0 0 (lim m).length],.v (.int .i64 (vl A % d))] rfl (by simp(disch:=omega)only[go_sem]) (by simp(disch:=omega)only[go_sem]) (by simp) (by intro _;simp[zj,AV.pu,AV.pu.puL,Ob.pu,q7]) (.inr ⟨zs,rfl,rfl⟩)
/-! ### Shifts-/
theorem aoD{k:Nat}(hk:k<16):IntKind.i64.wrap (1*2^(min ((k:Int)).toNat 64))=((2^k:Nat):Int):=by
 have e:min ((k:Int)).toNat 64=k:=by omega
 rw[e,Int.one_mul]
 have h:=yh k hk
 rw[akl (by omega) (by omega),Int.natCast_pow];rfl
theorem aqz(cl:Bool)(a k:Nat)(la:(lim a).length≤400000)(hk:k≤5000000):Con Tryz.prog 260 cl [.ag [.sl (lim (a)).length (qc (lim (a)))],.v (.int .i64 k)] [] (aKo (a*2^k)):=by
 refine Con.of_aw Tryz.func260 rfl Tryz.ntmps260 (by simp) (by simp) (by simp) (W.sound ?_)
 show @W Tryz.prog 22 ⟨_⟩ ⟨fun x σ=>@za _ _ _ ⟨_⟩ _ ⟨_⟩ x σ⟩ _ _
 have hz:((lim a).length:Int)=0→a=0:=fun h=>qI.1 (List.length_eq_zero_iff.1 (by omega))
 have hvA:=ze a
 have gA:=zf a
 generalize hLA:lim a=A at*
 simp(disch:=omega)only[go_sem]
 refine qe (fun h1=>?_) (fun h1=>?_)
 ·simp(disch:=omega)only[go_sem,h1]
  have h0:=hz h1
  subst h0
  refine qg [] [] [] [.ag [.v (.slice none 0 0)]] rfl (by simp(disch:=omega)only[go_sem]) (by simp(disch:=omega)only[go_sem]) (by simp) (by intro _;simp[zj,AV.pu,AV.pu.puL,Ob.pu,q7]) (.inl ⟨by simp,rfl,rfl⟩)
 ·simp(disch:=omega)only[go_sem,h1]
  refine qs rfl [⟨0,[],[]⟩,⟨1,[],[]⟩,⟨3,[],[]⟩,⟨4,[],[]⟩,⟨7,[4],[]⟩,⟨8,[4],[]⟩,⟨9,[4],[]⟩,⟨2,[4],[]⟩,⟨5,[],[]⟩,⟨6,[],[]⟩,⟨10,[],[]⟩,⟨11,[],[]⟩,⟨12,[],[]⟩] (by kernel_rfl) ?_
  have e16:((k:Int)/16).toNat=k/16:=by omega
  have e17:(k:Int) % 16=((k % 16:Nat):Int):=by omega
  have es:IntKind.i64.wrap (1*2^(min ((k:Int) % 16).toNat 64))=((2^(k % 16):Nat):Int):=by rw[e17];exact aoD (by omega)
  have hp15:2^(k % 16)≤2^15:=Nat.pow_le_pow_right (by omega) (by omega)
  have ecut:(List.replicate (k/16) (0:Int)).take (k/16)=List.replicate (k/16) 0:=List.take_of_length_le (by simp)
  simp(disch:=omega)only[go_sem,e16,ecut,es]
  refine⟨by omega,by omega,by simp;omega,?_⟩
  refine qa ((YT false (2^(k % 16)) (by omega)).natF) ?_
  simp(disch:=omega)only[go_sem]
  have hvA2:vl (List.replicate (k/16) 0++A)*((2^(k % 16):Nat):Int)=((a*2^k:Nat):Int):=by
   rw[yW,zL,hvA,List.length_replicate]
   have h2:a*2^k=65536^(k/16)*a*2^(k % 16):=by
    have:2^k=65536^(k/16)*2^(k % 16):=by rw[ZF,←Nat.pow_add,Nat.div_add_mod]
    rw[this];grind
   rw[h2,Int.natCast_mul,Int.natCast_mul,Int.natCast_pow]
   simp
  have gA2:gd (List.replicate (k/16) 0++A):=qL.2 ⟨zk _,gA⟩
  have lA2:(List.replicate (k/16) (0:Int)++A).length=k/16+A.length:=by simp
  have et:(List.replicate (k/16) (0:Int)++A).take (k/16+A.length)=List.replicate (k/16) 0++A:=List.take_of_length_le (by simp)
  have l2s:(lim (2^(k % 16))).length≤1000000:=by
   have:=qG (m:=2^(k % 16)) (B:=16) (zE.2 (by omega));omega
  refine qD (ajO true (List.replicate (k/16) 0++A) gA2 (2^(k % 16)) (by omega) l2s (a*2^k) hvA2) (by simp(disch:=omega)only[go_sem,lA2,et]) ?_
  rintro r hs (⟨h0,rfl,rfl⟩|⟨zs,rfl,rfl⟩)
  ·refine⟨⟨by simp,by simp(disch:=omega)only[go_sem]⟩,?_⟩
   simp(disch:=omega)only[go_sem]
   refine qg [] [] [] [.ag [.v (.slice none 0 0)]] rfl (by simp(disch:=omega)only[go_sem]) (by simp(disch:=omega)only[go_sem]) (by simp) (by intro _;simp[zj,AV.pu,AV.pu.puL,Ob.pu,q7]) (.inl ⟨h0,rfl,rfl⟩)
  ·refine⟨⟨by simp,by simp(disch:=omega)only[go_sem]⟩,?_⟩
   simp(disch:=omega)only[go_sem]
   refine qg [(0,230000000)] [.own 1 (qc (lim (a*2^k)++zs))] [] [.ag [.rf 0 0 (lim (a*2^k)).length]] rfl (by simp(disch:=omega)only[go_sem]) (by simp(disch:=omega)only[go_sem]) (by simp) (by intro _;simp[zj,AV.pu,AV.pu.puL,Ob.pu,q7]) (.inr ⟨zs,rfl,rfl⟩)
end Go.Ab
namespace Go.Ab
open Go Go.Proofs
theorem aqy(a k:Nat)(la:(lim a).length≤1000000)(hk:k≤100000000):Con Tryz.prog 257 false [.ag [.sl (lim (a)).length (qc (lim (a)))],.v (.int .i64 k)] [] (isA (.ag [.sl (lim (a/2^k)).length (qc (lim (a/2^k)))])):=by
 refine Con.frzA ?_
 refine Con.of_aw Tryz.func257 rfl Tryz.ntmps257 (by simp) (by simp) (by simp) (W.sound ?_)
 show @W Tryz.prog 28 ⟨_⟩ ⟨fun x σ=>@za _ _ _ ⟨_⟩ _ ⟨_⟩ x σ⟩ _ _
 simp(disch:=omega)only[go_sem]
 refine qe (fun h1=>?_) (fun h1=>?_)
 ·simp(disch:=omega)only[go_sem,h1]
  have h0:a/2^k=0:=by
   refine Nat.div_eq_of_lt (Nat.lt_of_lt_of_le (ZL a) ?_)
   rw[ZF];exact Nat.pow_le_pow_right (by omega) (by omega)
  rw[h0,qo]
  exact qk
 ·simp(disch:=omega)only[go_sem,h1]
  refine qs rfl [⟨0,[],[]⟩,⟨1,[],[]⟩,⟨2,[1],[]⟩,⟨3,[1],[]⟩,⟨4,[],[]⟩,⟨5,[],[]⟩,⟨6,[1,4],[]⟩,⟨7,[1,4],[]⟩,⟨8,[1,4],[]⟩,⟨13,[1,4],[]⟩,⟨9,[],[70000000]⟩,⟨10,[],[70000000]⟩,⟨11,[],[70000000]⟩,⟨12,[],[70000000]⟩,⟨14,[],[]⟩,⟨15,[],[]⟩] (by kernel_rfl) ?_
  have e16:((k:Int)/16).toNat=k/16:=by omega
  have e17:(k:Int) % 16=((k % 16:Nat):Int):=by omega
  have e18:(((lim a).length:Int)-(k:Int)/16).toNat=((lim a).drop (k/16)).length:=by simp;omega
  have es:IntKind.i64.wrap (1*2^(min ((k:Int) % 16).toNat 64))=((2^(k % 16):Nat):Int):=by rw[e17];exact aoD (by omega)
  have hp15:2^(k % 16)≤2^15:=Nat.pow_le_pow_right (by omega) (by omega)
  have hp0:0<2^(k % 16):=Nat.pow_pos (by omega)
  have hvD:=aeG (zf a) (i:=k/16) (by omega)
  have gD:=ym (zf a) (k/16)
  have hlD:((lim a).drop (k/16)).length≤1000000:=by simp;omega
  have hm:vl ((lim a).drop (k/16))/((2^(k % 16):Nat):Int)=((a/2^k:Nat):Int):=by
   rw[←hvD,ze]
   have:a/2^k=a/65536^(k/16)/2^(k % 16):=by rw[Nat.div_div_eq_div_mul,ZF,←Nat.pow_add,Nat.div_add_mod]
   rw[this,Int.natCast_ediv,Int.natCast_ediv,Int.natCast_pow 65536];rfl
  have et:((lim a).drop (k/16)).take ((lim a).drop (k/16)).length=(lim a).drop (k/16):=List.take_length
  simp(disch:=omega)only[go_sem,e16,e18,et,es]
  generalize (lim a).drop (k/16)=D at*
  refine⟨by omega,by omega,?_⟩
  refine qa ((aap false D (2^(k % 16)) gD hlD hp0 (by omega) (a/2^k) hm).natF2) ?_
  simp(disch:=omega)only[go_sem]
  exact qk
theorem aar(m:Nat)(i:Int)(hl:(lim m).length≤2^40)(hi:0≤i)(hi2:i<2^62):Con Tryz.prog 197 true [.ag [.sl (lim (m)).length (qc (lim (m)))],.v (.int .i64 i)] [] (isA (.v (.int .i64 ((m/2^i.toNat % 2:Nat):Int)))):=by
 refine Con.of_w (rs:=[.tmp 4]) Tryz.func197 rfl Tryz.ntmps197 rfl ?_
 obtain⟨k,rfl⟩:=Int.eq_ofNat_of_zero_le hi
 rw[Int.toNat_natCast]
 have h0:¬((k:Int)<0):=by omega
 have e16:((k:Int)/16).toNat=k/16:=by omega
 have em:min ((k:Int) % 16).toNat 64=k % 16:=by omega
 have hb:=aq3 m k
 simp(disch:=omega)only[go_sem,h0]
 refine qe (fun h1=>?_) (fun h1=>?_)
 ·simp(disch:=omega)only[go_sem,h1]
  have:m/2^k % 2=0:=by
   rw[←hb]
   have h2:=zR m (k/16)
   rw[List.getD_eq_getElem?_getD,List.getElem?_eq_none (by omega)]at h2
   have h3:m/65536^(k/16) % 65536=0:=by simp only[Option.getD_none]at h2;omega
   rw[h3];simp
  rw[this]
  exact qx
 ·have hx:=qK (zf m) (k/16)
  have hp:(0:Int)<2^(k % 16):=Int.pow_pos (by omega)
  have efd:∀x:Int,x.fdiv (2^(k % 16))=x/2^(k % 16):=fun x=>Int.fdiv_eq_ediv_of_nonneg _ (Int.le_of_lt hp)
  have hq:0≤(lim m).getD (k/16) 0/2^(k % 16)∧(lim m).getD (k/16) 0/2^(k % 16)<65536:=by
   refine⟨Int.ediv_nonneg hx.1 (Int.le_of_lt hp),Int.lt_of_le_of_lt (Int.ediv_le_self _ hx.1) hx.2⟩
  have hr:(lim m).getD (k/16) 0/2^(k % 16) % 2=((m/2^k % 2:Nat):Int):=by
   rw[←hb,zR]
   generalize m/65536^(k/16) % 65536=x
   rw[Int.natCast_emod,Int.natCast_ediv,Int.natCast_pow];rfl
  simp(disch:=omega)only[go_sem,h1,e16,em,efd,hr]
  refine⟨by omega,by omega,by omega,?_⟩
  exact qx
theorem arC{m i:Nat}(hz:∀j,j<i→m/2^j % 2=0)(h1:m/2^i % 2=1):tz m=i:=by
 have key:∀k,k≤i→2^k*(m/2^k)=m:=by
  intro k
  induction k with
  |zero=>intro _;simp
  |succ k ih=>
   intro hk
   have h2:=ih (by omega)
   have h3:=hz k (by omega)
   have h4:m/2^(k+1)=m/2^k/2:=by rw[Nat.pow_succ,Nat.div_div_eq_div_mul]
   rw[h4,Nat.pow_succ,Nat.mul_assoc,show 2*(m/2^k/2)=m/2^k by omega];exact h2
 refine Qq (a:=m/2^i/2) ?_
 have:=key i (Nat.le_refl _)
 rw[show 2*(m/2^i/2)+1=m/2^i by omega];exact this.symm
theorem aef(m:Nat)(hl:(lim m).length≤2^40):Con Tryz.prog 256 true [.ag [.sl (lim (m)).length (qc (lim (m)))]] [] (isA (.v (.int .i64 (tz m)))):=by
 refine Con.of_w (rs:=[.tmp 2]) Tryz.func256 rfl Tryz.ntmps256 rfl ?_
 simp(disch:=omega)only[go_sem]
 refine qi (fun i:Nat=>[(1,.pt 0 0),(3,.v (.int .i64 i))]) (fun _=>[(0,.own 0 [.sl (lim (m)).length (qc (lim (m)))])]) (fun i=>i≤16*(lim m).length∧∀j,j<i→m/2^j % 2=0) (fun i=>16*(lim m).length-i) 0 ⟨by omega,fun j hj=>by omega⟩ (Le.lst [(0,30000000)] _ _ rfl (by simp(disch:=omega)only[go_sem];try omega) (by simp(disch:=omega)only[go_sem])) ?_
 rintro i ⟨hi,hz⟩
 simp(disch:=omega)only[go_sem]
 refine qe (fun h1=>?_) (fun h1=>?_)
 ·simp(disch:=omega)only[go_sem,h1]
  refine qm (aar m i hl (by omega) (by omega)) ?_
  simp(disch:=omega)only[go_sem]
  refine qe (fun h2=>?_) (fun h2=>?_)
  ·simp(disch:=omega)only[go_sem,h2]
   have:=arC hz (by omega)
   rw[this]
   exact qx
  ·simp(disch:=omega)only[go_sem,h2]
   refine qb (i+1) [] ⟨by omega,fun j hj=>?_⟩ (by show 16*(lim m).length-(i+1)<16*(lim m).length-i;omega) rfl (by simp(disch:=omega)only[go_sem];try omega) (by simp(disch:=omega)only[go_sem])
   rcases(by omega:j<i∨j=i)with h|h
   ·exact hz j h
   ·subst h;omega
 ·simp(disch:=omega)only[go_sem,h1]
  have hm:m=0:=by
   have h3:=afk (m:=m)
   rcases Nat.eq_zero_or_pos m with h|h
   ·exact h
   ·have h4:=yv (n:=m) (by omega)
    have h5:=(y8 (n:=m) (by omega)).1
    have:=hz (tz m) (by omega)
    omega
  subst hm
  rw[ako]
  exact qx
end Go.Ab
namespace Go.Ab
open Go Go.Proofs
theorem aO5(m:Nat):decide ((0:Int)<((lim m).length:Int))=decide (m≠0):=by
 rw[decide_eq_decide]
 exact⟨fun h e=>by rw[e,qo]at h;simp at h,fun h=>by have:=Qa h;omega⟩
theorem Z5(m:Nat)(hl:(lim m).length≤2^39):Con Tryz.prog 276 false [.sl (lim (m)).length (qc (lim (m)))] [] (isA (.ag [.sl (lim (m)).length (qc (lim (m)))])):=(jN false (lim m) m hl (zf m) (ze m)).natF
theorem Z4(n:Nat)(hn:n<2^63):Con Tryz.prog 259 false [.v (.int .i64 n)] [] (isA (.ag [.sl (lim (n)).length (qc (lim (n)))])):=(YT false n hn).natF
theorem ajQ(a b:Nat)(la:(lim a).length≤2000000)(lb:(lim b).length≤2000000):Con Tryz.prog 258 false [.ag [.sl (lim (a)).length (qc (lim (a)))],.ag [.sl (lim (b)).length (qc (lim (b)))]] [] (isA (.ag [.sl (lim (a+b)).length (qc (lim (a+b)))])):=(aqA false a b la lb).natF
theorem JV(a k:Nat)(la:(lim a).length≤400000)(hk:k≤5000000):Con Tryz.prog 260 false [.ag [.sl (lim (a)).length (qc (lim (a)))],.v (.int .i64 k)] [] (isA (.ag [.sl (lim (a*2^k)).length (qc (lim (a*2^k)))])):=(aqz false a k la hk).natF
theorem zT(s:Bool)(m:Nat)(hl:(lim m).length≤2^39):Con Tryz.prog 246 false [.v (.bool s),.ag [.sl (lim (m)).length (qc (lim (m)))]] [] (isA (.ag [.v (.bool (s&&decide (m≠0))),.sl (lim (m)).length (qc (lim (m)))])):=by
 refine Con.frzA ?_
 refine Con.of_w (rs:=[.cell 4 38]) Tryz.func246 rfl Tryz.ntmps246 rfl ?_
 simp(disch:=omega)only[go_sem]
 refine qs rfl [⟨0,[],[]⟩,⟨1,[],[]⟩,⟨2,[],[]⟩,⟨3,[],[]⟩,⟨4,[],[]⟩,⟨5,[],[]⟩,⟨6,[],[]⟩,⟨7,[3],[]⟩,⟨8,[3],[]⟩,⟨9,[3],[]⟩,⟨10,[],[]⟩,⟨11,[],[]⟩] (by kernel_rfl) ?_
 simp(disch:=omega)only[go_sem]
 refine Qd (fun h1=>?_) (fun h1=>?_)
 ·simp(disch:=omega)only[go_sem,h1,aO5]
  refine qa (Z5 m hl) ?_
  simp(disch:=omega)only[go_sem]
  exact qk (hp:=by simp(disch:=omega)only[go_sem,h1,Bool.true_and])
 ·simp(disch:=omega)only[go_sem,h1]
  refine qa (Z5 m hl) ?_
  simp(disch:=omega)only[go_sem]
  exact qk (hp:=by simp(disch:=omega)only[go_sem,h1,Bool.false_and])
theorem YS(n:Int)(h: -9223372036854775808≤n∧n<9223372036854775808):Con Tryz.prog 205 false [.v (.int .i64 n)] [] (isA (.ag [.v (.bool (decide (n<0))),.sl (lim (n.natAbs)).length (qc (lim (n.natAbs)))])):=by
 refine Con.frzA ?_
 refine Con.of_aw Tryz.func205 rfl Tryz.ntmps205 (by simp) (by simp) (by simp) (W.sound ?_)
 show @W Tryz.prog 15 ⟨_⟩ ⟨fun x σ=>@za _ _ _ ⟨_⟩ _ ⟨_⟩ x σ⟩ _ _
 simp(disch:=omega)only[go_sem]
 refine qe (fun h1=>?_) (fun h1=>?_)
 ·simp(disch:=omega)only[go_sem,h1]
  have e1:0-(n+1)=(((0-(n+1)).toNat:Nat):Int):=by omega
  refine qa (Z4 (0-(n+1)).toNat (by omega)) ?_ (by simp(disch:=omega)only[go_sem,←e1])
  simp(disch:=omega)only[go_sem]
  refine qa (Z4 1 (by omega)) ?_
  simp(disch:=omega)only[go_sem]
  have l1:=qG (m:=(0-(n+1)).toNat) (B:=64) (zE.2 (by omega))
  have l2:=qG (m:=1) (B:=64) (by decide)
  refine qa (ajQ (0-(n+1)).toNat 1 (by omega) (by omega)) ?_
  simp(disch:=omega)only[go_sem]
  have e2:(0-(n+1)).toNat+1=n.natAbs:=by omega
  have l3:=qG (m:=(0-(n+1)).toNat+1) (B:=64) (zE.2 (by omega))
  refine qa (zT true ((0-(n+1)).toNat+1) (by omega)) ?_
  simp(disch:=omega)only[go_sem]
  refine qO (by simp(disch:=omega)only[go_sem]) ?_
  show qF _ 6 _=_
  have e3:decide (n.natAbs≠0)=true:=by simp;omega
  rw[e2]
  simp(disch:=omega)only[go_sem,e3,h1,Bool.true_and]
 ·simp(disch:=omega)only[go_sem,h1]
  have e1:n=((n.natAbs:Nat):Int):=by omega
  refine qa (Z4 n.natAbs (by omega)) ?_ (by simp(disch:=omega)only[go_sem,←e1])
  simp(disch:=omega)only[go_sem]
  have l3:=qG (m:=n.natAbs) (B:=64) (zE.2 (by omega))
  refine qa (zT false n.natAbs (by omega)) ?_
  simp(disch:=omega)only[go_sem]
  exact qk (hp:=by simp(disch:=omega)only[go_sem,h1,Bool.false_and])
theorem QL(s:Bool)(m:Nat)(e:Int)(hm:bl m≤8000000)(he: -2^40≤e∧e≤2^40):Con Tryz.prog 204 false [.ag [.v (.bool (s)),.sl (lim (m)).length (qc (lim (m)))],.v (.int .i64 e)] [] (isA (.ag [.v (.bool (oS s m)),.sl (lim (oM m)).length (qc (lim (oM m))),.v (.int .i64 (oE m e))])):=by
 refine Con.frzA ?_
 refine Con.of_aw Tryz.func204 rfl Tryz.ntmps204 (by simp) (by simp) (by simp) (W.sound ?_)
 show @W Tryz.prog 26 ⟨_⟩ ⟨fun x σ=>@za _ _ _ ⟨_⟩ _ ⟨_⟩ x σ⟩ _ _
 simp(disch:=omega)only[go_sem]
 have hl:=qG hm
 refine qe (fun h1=>?_) (fun h1=>?_)
 ·simp(disch:=omega)only[go_sem,h1]
  have h0:m=0:=qI.1 (List.length_eq_zero_iff.1 (by omega))
  subst h0
  refine qO (by simp(disch:=omega)only[go_sem]) ?_
  show qF _ 6 _=_
  simp only[oS,ZK,oE,qo,if_true]
  simp(disch:=omega)only[go_sem]
 ·have h0:m≠0:=fun e=>h1 (by rw[e,qo];rfl)
  have ht:=yv h0
  simp(disch:=omega)only[go_sem,h1]
  refine qm (aef m (by omega)) ?_
  simp(disch:=omega)only[go_sem]
  refine qs rfl [⟨0,[],[]⟩,⟨1,[],[]⟩,⟨2,[1],[]⟩,⟨3,[1],[]⟩,⟨4,[1,3],[]⟩,⟨7,[1,3],[]⟩,⟨8,[1,3],[]⟩,⟨9,[1,3],[]⟩,⟨5,[1],[]⟩,⟨6,[],[]⟩,⟨10,[],[]⟩,⟨11,[],[]⟩] (by kernel_rfl) ?_
  simp(disch:=omega)only[go_sem]
  refine qa (aqy m (tz m) (by omega) (by omega)) ?_
  simp(disch:=omega)only[go_sem]
  have l3:=qG (Nat.le_trans (Y9 m (2^tz m)) hm)
  refine qa (zT s (m/2^tz m) (by omega)) ?_
  simp(disch:=omega)only[go_sem]
  refine qO (by simp(disch:=omega)only[go_sem]) ?_
  show qF _ 6 _=_
  have h3:decide (m/2^tz m≠0)=true:=by
   have:=(y8 h0).1
   simp only[decide_eq_true_eq];omega
  simp only[oS,oM,oE,if_neg h0]
  simp(disch:=omega)only[go_sem,h3,Bool.and_true]
end Go.Ab
namespace Go.Ab
open Go Go.Proofs
theorem aaq(a b:Nat)(la:(lim a).length≤2^40)(lb:(lim b).length≤2^40):
  Con Tryz.prog 261 true [.ag [.sl (lim (a)).length (qc (lim (a)))],.ag [.sl (lim (b)).length (qc (lim (b)))]] [] (isA (.v (.int .i64 (zK a b)))):=by
 refine Con.of_w (rs:=[.tmp 4]) Tryz.func261 rfl Tryz.ntmps261 rfl ?_
 simp(disch:=omega)only[go_sem]
 refine zB (fun h1=>?_) (fun h1=>?_)
 ·simp(disch:=omega)only[go_sem,h1]
  refine qe (fun h2=>?_) (fun h2=>?_)
  ·simp(disch:=omega)only[go_sem,h2]
   have:=Qb (a:=a) (b:=b) (by omega)
   rw[show zK (a:Int) (b:Int)= -1 by unfold zK;rw[if_pos (by omega)]]
   exact qx
  ·simp(disch:=omega)only[go_sem,h2]
   have:=Qb (a:=b) (b:=a) (by omega)
   rw[show zK (a:Int) (b:Int)=1 by unfold zK;rw[if_neg (by omega),if_pos (by omega)]]
   exact qx
 ·simp(disch:=omega)only[go_sem,h1]
  have hl:(lim a).length=(lim b).length:=by omega
  refine qi (fun k:Nat=>[(2,.pt 40000000 0),(3,.pt 50000000 0),(5,.v (.int .i64 ((k:Int)-1)))])
   (fun _=>[(40000000,.own 0 [.sl (lim (a)).length (qc (lim (a)))]),(50000000,.own 0 [.sl (lim (b)).length (qc (lim (b)))])]) (fun k=>k≤(lim a).length∧(lim a).drop k=(lim b).drop k) (fun k=>k) (lim a).length ⟨Nat.le_refl _,by rw[List.drop_length,hl,List.drop_length]⟩ (Le.lst [] _ _ rfl (by simp(disch:=omega)only[go_sem];try omega) (by simp(disch:=omega)only[go_sem])) ?_
  rintro k ⟨hk,hd⟩
  simp(disch:=omega)only[go_sem]
  refine qe (fun h2=>?_) (fun h2=>?_)
  ·obtain⟨i,rfl⟩:∃i,k=i+1:=⟨k-1,by omega⟩
   have ei:((i+1:Nat):Int)-1=(i:Nat):=by omega
   have hva:=ze a
   have hvb:=ze b
   simp(disch:=omega)only[go_sem,h2,ei]
   refine qs rfl [⟨0,[],[]⟩,⟨1,[],[]⟩,⟨2,[1],[]⟩,⟨3,[],[]⟩,⟨4,[],[]⟩,⟨5,[1,4],[]⟩,⟨6,[1,4],[]⟩,⟨7,[1,4,6],[]⟩,⟨8,[1,4],[]⟩,⟨9,[1,4],[]⟩,⟨10,[],[]⟩] (by kernel_rfl) ?_
   simp(disch:=omega)only[go_sem,ei]
   refine⟨by omega,by omega,by omega,by omega,?_⟩
   refine qe (fun h3=>?_) (fun h3=>?_)
   ·simp(disch:=omega)only[go_sem,h3]
    have:=Q8 (zf a) (zf b) (by omega) hl hd h3
    rw[show zK (a:Int) (b:Int)= -1 by unfold zK;rw[if_pos (by omega)]]
    exact qx
   ·simp(disch:=omega)only[go_sem,h3]
    refine qs rfl [⟨0,[],[]⟩,⟨1,[],[]⟩,⟨2,[1],[]⟩,⟨3,[],[]⟩,⟨4,[],[]⟩,⟨5,[1,4],[]⟩,⟨6,[1,4],[]⟩,⟨7,[1,4,6],[]⟩,⟨8,[1,4],[]⟩,⟨9,[1,4],[]⟩,⟨10,[],[]⟩] (by kernel_rfl) ?_
    simp(disch:=omega)only[go_sem,ei]
    refine⟨by omega,by omega,by omega,by omega,?_⟩
    refine qe (fun h4=>?_) (fun h4=>?_)
    ·simp(disch:=omega)only[go_sem,h4]
     have:=Q8 (zf b) (zf a) (by omega) hl.symm hd.symm h4
     rw[show zK (a:Int) (b:Int)=1 by unfold zK;rw[if_neg (by omega),if_pos (by omega)]]
     exact qx
    ·simp(disch:=omega)only[go_sem,h4]
     refine qb i [] ⟨by omega,?_⟩ (by show i<i+1;omega) rfl (by simp(disch:=omega)only[go_sem];try omega) (by simp(disch:=omega)only[go_sem])
     have h5:(lim a).getD i 0=(lim b).getD i 0:=by omega
     rw[yr (l:=lim a) (by omega),yr (l:=lim b) (by omega),h5,hd]
  ·simp(disch:=omega)only[go_sem,h2]
   have:k=0:=by omega
   subst this
   rw[List.drop_zero,List.drop_zero]at hd
   have:=yk hd
   subst this
   rw[show zK (a:Int) (a:Int)=0 by simp[zK]]
   exact qx
end Go.Ab
namespace Go.Ab
open Go Go.Proofs
theorem aqw(s:Bool)(m:Nat)(hl:(lim m).length≤2^39):Con Tryz.prog 190 false [.ag [.v (.bool (s)),.sl (lim (m)).length (qc (lim (m)))]] [] (isA (.ag [.v (.bool ((!s)&&decide (m≠0))),.sl (lim (m)).length (qc (lim (m)))])):=by
 refine Con.frzA ?_
 refine Con.of_w (rs:=[.cell 2 38]) Tryz.func190 rfl Tryz.ntmps190 rfl ?_
 simp(disch:=omega)only[go_sem]
 refine qa (zT (!s) m hl) ?_
 simp(disch:=omega)only[go_sem]
 exact qk
theorem aqu(s:Bool)(m:Nat)(e:Int)(hl:(lim m).length≤2^39):Con Tryz.prog 112 false [.ag [.v (.bool (s)),.sl (lim (m)).length (qc (lim (m))),.v (.int .i64 (e))]] [] (isA (.ag [.v (.bool ((!s)&&decide (m≠0))),.sl (lim (m)).length (qc (lim (m))),.v (.int .i64 (e))])):=by
 refine Con.frzA ?_
 refine Con.of_w (rs:=[.cell 2 40]) Tryz.func112 rfl Tryz.ntmps112 rfl ?_
 simp(disch:=omega)only[go_sem]
 refine qs rfl [⟨0,[],[]⟩,⟨1,[],[]⟩,⟨3,[1],[]⟩,⟨4,[1],[]⟩,⟨2,[4],[]⟩,⟨5,[],[]⟩,⟨6,[],[]⟩] (by kernel_rfl) ?_
 simp(disch:=omega)only[go_sem]
 refine qa (aqw s m hl) ?_
 simp(disch:=omega)only[go_sem]
 exact qk
def alF(m1:Nat)(e1:Int)(m2:Nat)(e2:Int):Int:=if m1=0 then e2 else if m2=0 then e1 else if e1≤e2 then e1 else e2
theorem aee(s1:Bool)(m1:Nat)(e1:Int)(s2:Bool)(m2:Nat)(e2:Int)(h1:bl m1≤4000000)(h2:bl m2≤4000000)(he1: -1000000≤e1∧e1≤1000000)(he2: -1000000≤e2∧e2≤1000000)(z1:m1=0→s1=false)(z2:m2=0→s2=false):
  Con Tryz.prog 208 false [.ag [.v (.bool (s1)),.sl (lim (m1)).length (qc (lim (m1))),.v (.int .i64 (e1))],.ag [.v (.bool (s2)),.sl (lim (m2)).length (qc (lim (m2))),.v (.int .i64 (e2))]] [] (isA (.tu [.ag [.v (.bool (s1)),.sl (lim (alA m1 e1 (alE m1 e1 m2 e2))).length (qc (lim (alA m1 e1 (alE m1 e1 m2 e2))))],.ag [.v (.bool (s2)),.sl (lim (alA m2 e2 (alE m1 e1 m2 e2))).length (qc (lim (alA m2 e2 (alE m1 e1 m2 e2))))],.v (.int .i64 (alF m1 e1 m2 e2))])):=by
 refine Con.frzA ?_
 have l1:=qG h1
 have l2:=qG h2
 refine Con.of_aw Tryz.func208 rfl Tryz.ntmps208 (by simp) (by simp) (by simp) (W.sound ?_)
 show @W Tryz.prog 70 ⟨_⟩ ⟨fun x σ=>@za _ _ _ ⟨_⟩ _ ⟨_⟩ x σ⟩ _ _
 simp(disch:=omega)only[go_sem]
 refine qe (fun c1=>?_) (fun c1=>?_)
 ·have y1:m1=0:=qI.1 (List.length_eq_zero_iff.1 (by omega))
  have eF:alF m1 e1 m2 e2=e2:=by unfold alF;rw[if_pos y1]
  have a1:alA m1 e1 (alE m1 e1 m2 e2)=m1:=by rw[y1];unfold alA;rw[Nat.zero_mul]
  have a2:alA m2 e2 (alE m1 e1 m2 e2)=m2:=by
   by_cases y2:m2=0
   ·rw[y2];unfold alA;rw[Nat.zero_mul]
   ·unfold alA alE;rw[if_neg y2,if_pos y1,Int.sub_self];simp
  simp(disch:=omega)only[go_sem,c1]
  refine qs rfl [⟨0,[],[]⟩,⟨1,[],[]⟩,⟨2,[1],[]⟩,⟨3,[1],[]⟩,⟨4,[1,3],[]⟩,⟨5,[1,3],[]⟩,⟨6,[3,5],[]⟩,⟨7,[5],[]⟩,⟨8,[],[]⟩] (by kernel_rfl) ?_
  simp(disch:=omega)only[go_sem]
  refine qO (by simp(disch:=omega)only[go_sem]) ?_
  show qF _ 6 _=_
  rw[eF,a1,a2]
  simp(disch:=omega)only[go_sem]
 ·have y1:m1≠0:=fun e=>c1 (by rw[e,qo];rfl)
  simp(disch:=omega)only[go_sem,c1]
  refine qe (fun c2=>?_) (fun c2=>?_)
  ·have y2:m2=0:=qI.1 (List.length_eq_zero_iff.1 (by omega))
   have eF:alF m1 e1 m2 e2=e1:=by unfold alF;rw[if_neg y1,if_pos y2]
   have a1:alA m1 e1 (alE m1 e1 m2 e2)=m1:=by unfold alA alE;rw[if_pos y2,Int.sub_self];simp
   have a2:alA m2 e2 (alE m1 e1 m2 e2)=m2:=by rw[y2];unfold alA;rw[Nat.zero_mul]
   simp(disch:=omega)only[go_sem,c2]
   refine qs rfl [⟨0,[],[]⟩,⟨1,[],[]⟩,⟨2,[1],[]⟩,⟨3,[1],[]⟩,⟨4,[1,3],[]⟩,⟨5,[1,3],[]⟩,⟨6,[3,5],[]⟩,⟨7,[5],[]⟩,⟨8,[],[]⟩] (by kernel_rfl) ?_
   simp(disch:=omega)only[go_sem]
   refine qO (by simp(disch:=omega)only[go_sem]) ?_
   show qF _ 6 _=_
   rw[eF,a1,a2]
   simp(disch:=omega)only[go_sem]
  ·have y2:m2≠0:=fun e=>c2 (by rw[e,qo];rfl)
   simp(disch:=omega)only[go_sem,c2]
   refine qe (fun c3=>?_) (fun c3=>?_)
   ·have eF:alF m1 e1 m2 e2=e1:=by unfold alF;rw[if_neg y1,if_neg y2,if_pos c3]
    have eE:alE m1 e1 m2 e2=e1:=by unfold alE;rw[if_neg y2,if_neg y1,if_neg (by omega)]
    have a1:alA m1 e1 (alE m1 e1 m2 e2)=m1:=by rw[eE];unfold alA;rw[Int.sub_self];simp
    have ek:e2-e1=(((e2-e1).toNat:Nat):Int):=by omega
    have hb:bl (m2*2^(e2-e1).toNat)≤6000000:=by have:=Y6 m2 (e2-e1).toNat;omega
    have l3:=qG hb
    have hn:m2*2^(e2-e1).toNat≠0:=Nat.mul_ne_zero y2 (Nat.pos_iff_ne_zero.1 (Nat.pow_pos (by omega)))
    have hd:decide (m2*2^(e2-e1).toNat≠0)=true:=decide_eq_true hn
    simp(disch:=omega)only[go_sem,c3]
    refine qs rfl [⟨0,[],[]⟩,⟨1,[],[]⟩,⟨2,[1],[]⟩,⟨3,[1],[]⟩,⟨4,[1],[]⟩,⟨5,[1,4],[]⟩,⟨6,[1,4],[]⟩,⟨7,[1,4],[]⟩,⟨8,[1,4,7],[]⟩,⟨9,[1,4,7],[]⟩,⟨10,[1,4,7,9],[]⟩,⟨11,[1,4,7,9],[]⟩,⟨12,[1,4,7],[]⟩,⟨15,[1,4,7,9,11],[]⟩,⟨16,[1,4,7,9,11],[]⟩,⟨13,[1,4,16],[]⟩,⟨14,[1,16],[]⟩,⟨17,[16],[]⟩,⟨18,[16],[]⟩,⟨19,[],[]⟩] (by kernel_rfl) ?_
    simp(disch:=omega)only[go_sem]
    refine qY (JV m2 (e2-e1).toNat (by omega) (by omega)) (by simp(disch:=omega)only[go_sem,←ek]) ?_
    rintro r hs ⟨rfl,rfl,_⟩
    refine⟨by simp[qN],?_⟩
    simp(disch:=omega)only[go_sem]
    refine qa (zT s2 (m2*2^(e2-e1).toNat) (by omega)) ?_
    simp(disch:=omega)only[go_sem]
    refine qO (by simp(disch:=omega)only[go_sem]) ?_
    show qF _ 6 _=_
    rw[eF,a1,eE,hd];unfold alA
    simp(disch:=omega)only[go_sem,Bool.and_true]
   ·have eF:alF m1 e1 m2 e2=e2:=by unfold alF;rw[if_neg y1,if_neg y2,if_neg c3]
    have eE:alE m1 e1 m2 e2=e2:=by unfold alE;rw[if_neg y2,if_neg y1,if_pos (by omega)]
    have a2:alA m2 e2 (alE m1 e1 m2 e2)=m2:=by rw[eE];unfold alA;rw[Int.sub_self];simp
    have ek:e1-e2=(((e1-e2).toNat:Nat):Int):=by omega
    have hb:bl (m1*2^(e1-e2).toNat)≤6000000:=by have:=Y6 m1 (e1-e2).toNat;omega
    have l3:=qG hb
    have hn:m1*2^(e1-e2).toNat≠0:=Nat.mul_ne_zero y1 (Nat.pos_iff_ne_zero.1 (Nat.pow_pos (by omega)))
    have hd:decide (m1*2^(e1-e2).toNat≠0)=true:=decide_eq_true hn
    simp(disch:=omega)only[go_sem,c3]
    refine qs rfl [⟨0,[],[]⟩,⟨1,[],[]⟩,⟨2,[],[]⟩,⟨3,[2],[]⟩,⟨4,[2],[]⟩,⟨5,[2],[]⟩,⟨6,[2,5],[]⟩,⟨7,[2,5],[]⟩,⟨8,[2,5,7],[]⟩,⟨9,[2,5,7],[]⟩,⟨10,[2,5],[]⟩,⟨13,[2,5,7,9],[]⟩,⟨14,[2,5,7,9],[]⟩,⟨15,[2,5,7,9,14],[]⟩,⟨16,[2,5,7,9,14],[]⟩,⟨11,[2,14,16],[]⟩,⟨12,[14,16],[]⟩,⟨17,[14,16],[]⟩,⟨18,[16],[]⟩,⟨19,[],[]⟩] (by kernel_rfl) ?_
    simp(disch:=omega)only[go_sem]
    refine qY (JV m1 (e1-e2).toNat (by omega) (by omega)) (by simp(disch:=omega)only[go_sem,←ek]) ?_
    rintro r hs ⟨rfl,rfl,_⟩
    refine⟨by simp[qN],?_⟩
    simp(disch:=omega)only[go_sem]
    refine qa (zT s1 (m1*2^(e1-e2).toNat) (by omega)) ?_
    simp(disch:=omega)only[go_sem]
    refine qO (by simp(disch:=omega)only[go_sem]) ?_
    show qF _ 6 _=_
    rw[eF,a2,eE,hd];unfold alA
    simp(disch:=omega)only[go_sem,Bool.and_true]
end Go.Ab
namespace Go.Ab
open Go Go.Proofs
def srM(s:Bool)(m:Nat)(e low mode:Int):Nat:=oM (roM s m e low mode)
def srE(s:Bool)(m:Nat)(e low mode:Int):Int:=if low≤e∨m=0 then e else oE (roM s m e low mode) low
end Go.Ab
namespace Go.Ab
open Go Go.Proofs
end Go.Ab
namespace Go.Ab
open Go Go.Proofs
theorem ajH(xs:List Int)(hl:xs.length≤2^40):Con Tryz.prog 252 true [.ag [.sl xs.length (qc xs)]] [] (isA (.v (.bool (Yo xs)))):=by
 refine Con.of_aw Tryz.func252 rfl Tryz.ntmps252 (by simp) (by simp) (by simp) (W.sound ?_)
 show @W Tryz.prog 44 ⟨_⟩ ⟨fun x σ=>@za _ _ _ ⟨_⟩ _ ⟨_⟩ x σ⟩ _ _
 simp(disch:=omega)only[go_sem]
 refine qe (fun h1=>?_) (fun h1=>?_)
 ·simp(disch:=omega)only[go_sem,h1]
  refine qy (by simp(disch:=omega)only[go_sem]) (by simp(disch:=omega)only[go_sem]) ⟨?_,rfl,rfl⟩
  have:¬(xs.length≤100):=by omega
  simp[zj,Yo,this]
 ·simp(disch:=omega)only[go_sem,h1]
  refine qi (fun i:Nat=>[(1,.pt 30000000 0),(2,.v (.bool false)),(3,.v (.int .i64 i))]) (fun _=>[(30000000,.own 0 [.sl xs.length (qc xs)])]) (fun i=>i≤xs.length∧∀x∈xs.take i,0≤x∧x≤65535) (fun i=>xs.length-i) 0 ⟨by omega,by simp⟩
   (Le.lst [] _ _ rfl (by simp(disch:=omega)only[go_sem]) (by simp(disch:=omega)only[go_sem])) ?_
  rintro i ⟨hi,hx⟩
  simp(disch:=omega)only[go_sem]
  refine qe (fun h2=>?_) (fun h2=>?_)
  ·simp(disch:=omega)only[go_sem,h2]
   have hmem:xs.getD i 0∈xs:=by
    rw[List.getD_eq_getElem?_getD,List.getElem?_eq_getElem (by omega)];exact List.getElem_mem _
   have bad:¬(0≤xs.getD i 0∧xs.getD i 0≤65535)→Yo xs=false:=by
    intro hc
    unfold Yo
    have:xs.all (fun x=>decide (0≤x)&&decide (x≤65535))=false:=by
     rw[List.all_eq_false]
     refine⟨_,hmem,?_⟩
     simp only[Bool.and_eq_true,decide_eq_true_eq];exact hc
    rw[this];simp
   refine⟨by omega,by omega,?_⟩
   refine zB (fun h3=>?_) (fun h3=>?_)
   ·simp(disch:=omega)only[go_sem,h3]
    refine⟨by omega,by omega,?_⟩
    refine qe (fun h4=>?_) (fun h4=>?_)
    ·simp(disch:=omega)only[go_sem,h4]
     rw[bad (by omega)]
     exact qx
    ·simp(disch:=omega)only[go_sem,h4]
     refine qb (i+1) [] ⟨by omega,?_⟩ (by show xs.length-(i+1)<xs.length-i;omega) rfl (by simp(disch:=omega)only[go_sem];try omega) (by simp(disch:=omega)only[go_sem])
     intro x hxx
     rw[List.take_add_one]at hxx
     rcases List.mem_append.1 hxx with h|h
     ·exact hx x h
     ·rw[List.getElem?_eq_getElem (by omega)]at h
      simp at h
      rw[List.getD_eq_getElem?_getD,List.getElem?_eq_getElem (by omega)]at h3 h4
      simp at h3 h4
      subst h
      omega
   ·simp(disch:=omega)only[go_sem,h3]
    rw[bad (by omega)]
    exact qx
  ·have:i=xs.length:=by omega
   subst this
   rw[List.take_length]at hx
   have hall:xs.all (fun x=>decide (0≤x)&&decide (x≤65535))=true:=by
    rw[List.all_eq_true]
    intro x h;have:=hx x h;simp only[Bool.and_eq_true,decide_eq_true_eq];exact this
   have e1:decide (xs.length≤100)=true:=by simp;omega
   simp(disch:=omega)only[go_sem,h2]
   refine zB (fun h3=>?_) (fun h3=>?_)
   ·have en:((xs.length:Int)-1).toNat=xs.length-1:=by omega
    have hmem:xs.getD (xs.length-1) 0∈xs:=by
     rw[List.getD_eq_getElem?_getD,List.getElem?_eq_getElem (by omega)];exact List.getElem_mem _
    have hp:=hx _ hmem
    simp(disch:=omega)only[go_sem,h3,en]
    refine⟨by omega,by omega,?_⟩
    refine qy (by simp(disch:=omega)only[go_sem]) (by simp(disch:=omega)only[go_sem]) ⟨?_,rfl,rfl⟩
    have e2:decide (xs.length=0)=false:=by simp;intro h;subst h;simp at h3
    show AV.v (.bool _)=AV.v (.bool _)
    unfold Yo
    rw[e1,hall,e2,Bool.false_or,Bool.true_and,Bool.true_and]
    congr 2
    rw[decide_eq_decide]
    omega
   ·simp(disch:=omega)only[go_sem,h3]
    refine qy (by simp(disch:=omega)only[go_sem]) (by simp(disch:=omega)only[go_sem]) ⟨?_,rfl,rfl⟩
    have e2:decide (xs.length=0)=true:=by simp;exact List.length_eq_zero_iff.1 (by omega)
    show AV.v (.bool _)=AV.v (.bool _)
    unfold Yo
    rw[e1,hall,e2]
    simp
theorem QT(s:Bool)(xs:List Int)(hl:xs.length≤2^40):Con Tryz.prog 196 true [.ag [.v (.bool s),.sl xs.length (qc xs)]] [] (isA (.v (.bool (zN s xs)))):=by
 refine Con.of_aw Tryz.func196 rfl Tryz.ntmps196 (by simp) (by simp) (by simp) (W.sound ?_)
 show @W Tryz.prog 18 ⟨_⟩ ⟨fun x σ=>@za _ _ _ ⟨_⟩ _ ⟨_⟩ x σ⟩ _ _
 simp(disch:=omega)only[go_sem]
 refine qm (ajH xs hl) ?_
 simp(disch:=omega)only[go_sem]
 refine Qd (fun h1=>?_) (fun h1=>?_)
 ·simp(disch:=omega)only[go_sem,h1]
  cases s
  ·simp(disch:=omega)only[go_sem]
   refine qy (by simp(disch:=omega)only[go_sem]) (by simp(disch:=omega)only[go_sem]) ⟨?_,rfl,rfl⟩
   simp[zj,zN,h1]
  ·simp(disch:=omega)only[go_sem]
   refine qy (by simp(disch:=omega)only[go_sem]) (by simp(disch:=omega)only[go_sem]) ⟨?_,rfl,rfl⟩
   show AV.v (.bool _)=AV.v (.bool _)
   unfold zN
   rw[h1,Bool.true_and,Bool.true_and,←decide_not]
   congr 2
   rw[decide_eq_decide]
   omega
 ·simp(disch:=omega)only[go_sem,h1]
  refine qy (by simp(disch:=omega)only[go_sem]) (by simp(disch:=omega)only[go_sem]) ⟨?_,rfl,rfl⟩
  simp[zj,zN,h1]
theorem Qk(s:Bool)(xs:List Int)(e:Int)(hl:xs.length≤2^40):Con Tryz.prog 116 true [.ag [.v (.bool s),.sl xs.length (qc xs),.v (.int .i64 e)]] [] (isA (.v (.bool (dyB s xs e)))):=by
 refine Con.of_aw Tryz.func116 rfl Tryz.ntmps116 (by simp) (by simp) (by simp) (W.sound ?_)
 show @W Tryz.prog 31 ⟨_⟩ ⟨fun x σ=>@za _ _ _ ⟨_⟩ _ ⟨_⟩ x σ⟩ _ _
 simp(disch:=omega)only[go_sem]
 refine qm (QT s xs hl) ?_
 simp(disch:=omega)only[go_sem]
 refine Qd (fun hw=>?_) (fun hw=>?_)
 ·have h1:=hw
  simp only[zN,Bool.and_eq_true]at h1
  obtain⟨hx,hll⟩:=Zf h1.1
  have hxs:xs=lim (vl xs).toNat:=hx
  generalize hm:(vl xs).toNat=m at*
  subst hx
  simp(disch:=omega)only[go_sem,hw]
  refine zB (fun h2=>?_) (fun h2=>?_)
  ·simp(disch:=omega)only[go_sem,h2]
   refine qe (fun h3=>?_) (fun h3=>?_)
   ·simp(disch:=omega)only[go_sem,h3]
    refine qy (by simp(disch:=omega)only[go_sem]) (by simp(disch:=omega)only[go_sem]) ⟨?_,rfl,rfl⟩
    have a2:¬e≤3000:=by omega
    simp[zj,dyB,a2]
   ·simp(disch:=omega)only[go_sem,h3]
    refine qe (fun h4=>?_) (fun h4=>?_)
    ·simp(disch:=omega)only[go_sem,h4]
     have h0:m=0:=qI.1 (List.length_eq_zero_iff.1 (by omega))
     refine qy (by simp(disch:=omega)only[go_sem]) (by simp(disch:=omega)only[go_sem]) ⟨?_,rfl,rfl⟩
     have a1: -3000≤e:=by omega
     have a2:e≤3000:=by omega
     have a3:(lim m).length=0:=by omega
     show AV.v (.bool _)=AV.v (.bool _)
     unfold dyB
     rw[hw,hm,decide_eq_true a1,decide_eq_true a2,decide_eq_true a3,h0]
     simp
    ·simp(disch:=omega)only[go_sem,h4]
     refine qm (aar m 0 (by omega) (by omega) (by omega)) ?_
     simp(disch:=omega)only[go_sem]
     refine qy (by simp(disch:=omega)only[go_sem]) (by simp(disch:=omega)only[go_sem]) ⟨?_,rfl,rfl⟩
     have a1: -3000≤e:=by omega
     have a2:e≤3000:=by omega
     have a3:¬(lim m).length=0:=by omega
     show AV.v (.bool _)=AV.v (.bool _)
     unfold dyB
     rw[hw,hm,decide_eq_true a1,decide_eq_true a2,decide_eq_false a3]
     simp
     omega
  ·simp(disch:=omega)only[go_sem,h2]
   refine qy (by simp(disch:=omega)only[go_sem]) (by simp(disch:=omega)only[go_sem]) ⟨?_,rfl,rfl⟩
   have a1:¬ -3000≤e:=by omega
   simp[zj,dyB,a1]
 ·simp(disch:=omega)only[go_sem,hw]
  refine qy (by simp(disch:=omega)only[go_sem]) (by simp(disch:=omega)only[go_sem]) ⟨?_,rfl,rfl⟩
  simp[zj,dyB,hw]
end Go.Ab
namespace Go.Ab
open Go Go.Proofs
theorem ZY(s:Bool)(m:Nat)(e:Int):dyB (oS s m) (lim (oM m)) (oE m e)=j0 m e:=by
 unfold dyB zN j0 jJ
 rw[ze,Int.toNat_natCast]
 have hod:=aOP m
 have hz:=bdV s m
 by_cases h:(lim (oM m)).length≤100
 ·rw[ao8 _ h,decide_eq_true h,Bool.true_and,Bool.true_and]
  by_cases h0:oM m=0
  ·have hm:m=0:=yy.1 h0
   rw[hz h0,h0,hm]
   simp[oE,qo]
  ·have h1:oM m % 2=1:=hod.resolve_right h0
   have h2:decide ((lim (oM m)).length=0)=false:=by
    have:=Qa h0
    exact decide_eq_false (by omega)
   rw[h2,decide_eq_true h1]
   simp
 ·rw[decide_eq_false h]
  have:Yo (lim (oM m))=false:=by unfold Yo;rw[decide_eq_false h,Bool.false_and]
  rw[this];simp
theorem ajM(s:Bool)(m:Nat)(e:Int)(hl:(lim (oM m)).length≤2^40):Con Tryz.prog 179 false [.ag [.v (.bool (oS s m)),.sl (lim (oM m)).length (qc (lim (oM m))),.v (.int .i64 (oE m e))]] [] (isA (if j0 m e=true then .tu [.ag [.v (.bool (oS s m)),.sl (lim (oM m)).length (qc (lim (oM m))),.v (.int .i64 (oE m e))],.v (.bool true)]else .tu [.ag [.v (.bool (false)),.sl (lim (0)).length (qc (lim (0))),.v (.int .i64 (0))],.v (.bool false)])):=by
 refine Con.frzA ?_
 have ck:=Qk (oS s m) (lim (oM m)) (oE m e) hl
 rw[ZY]at ck
 cases hd:j0 m e
 ·rw[hd]at ck
  rw[if_neg (by simp),qo]
  refine Con.of_w (rs:=[.cell 2 40,.tmp 3]) Tryz.func179 rfl Tryz.ntmps179 rfl ?_
  simp(disch:=omega)only[go_sem]
  refine qm (ck) ?_
  simp(disch:=omega)only[go_sem]
  exact qk
 ·rw[hd]at ck
  rw[if_pos rfl]
  refine Con.of_w (rs:=[.cell 2 40,.tmp 3]) Tryz.func179 rfl Tryz.ntmps179 rfl ?_
  simp(disch:=omega)only[go_sem]
  refine qm (ck) ?_
  simp(disch:=omega)only[go_sem]
  exact qk
def pmS(s1:Bool)(m1:Nat)(s2:Bool)(m2:Nat):Bool:=(s1 != s2)&&decide (m1*m2≠0)
end Go.Ab
namespace Go.Ab
open Go Go.Proofs
theorem aqx(s1:Bool)(m1:Nat)(s2:Bool)(m2:Nat)(l1:(lim m1).length≤2^40)(l2:(lim m2).length≤2^40)(z1:m1=0→s1=false)(z2:m2=0→s2=false):
  Con Tryz.prog 209 true [.ag [.v (.bool (s1)),.sl (lim (m1)).length (qc (lim (m1)))],.ag [.v (.bool (s2)),.sl (lim (m2)).length (qc (lim (m2)))]] [] (isA (.v (.int .i64 (zK (sv s1 m1) (sv s2 m2))))):=by
 rw[aaG z1 z2]
 cases s1<;>cases s2
 ·refine Con.of_w (rs:=[.tmp 4]) Tryz.func209 rfl Tryz.ntmps209 rfl ?_
  simp(disch:=omega)only[go_sem]
  refine qm (aaq m1 m2 l1 l2) ?_
  simp(disch:=omega)only[go_sem]
  exact qx
 ·refine Con.of_w (rs:=[.tmp 4]) Tryz.func209 rfl Tryz.ntmps209 rfl ?_
  simp(disch:=omega)only[go_sem]
  exact qx
 ·refine Con.of_w (rs:=[.tmp 4]) Tryz.func209 rfl Tryz.ntmps209 rfl ?_
  simp(disch:=omega)only[go_sem]
  exact qx
 ·refine Con.of_w (rs:=[.tmp 4]) Tryz.func209 rfl Tryz.ntmps209 rfl ?_
  simp(disch:=omega)only[go_sem]
  refine qm (aaq m2 m1 l2 l1) ?_
  simp(disch:=omega)only[go_sem]
  exact qx
theorem aqv(K:Nat)(s1:Bool)(m1:Nat)(e1:Int)(s2:Bool)(m2:Nat)(e2:Int)(h1:bl m1≤4000000)(h2:bl m2≤4000000)(he1: -1000000≤e1∧e1≤1000000)(he2: -1000000≤e2∧e2≤1000000)(k1: -(K:Int)≤e1)(k2: -(K:Int)≤e2)(z1:m1=0→s1=false)(z2:m2=0→s2=false):
  Con Tryz.prog 132 true [.ag [.v (.bool (s1)),.sl (lim (m1)).length (qc (lim (m1))),.v (.int .i64 (e1))],.ag [.v (.bool (s2)),.sl (lim (m2)).length (qc (lim (m2))),.v (.int .i64 (e2))]] [] (isA (.v (.int .i64 (zK (dv K s1 m1 e1) (dv K s2 m2 e2))))):=by
 have hE:=QY (m1:=m1) (m2:=m2) he1.1 he2.1
 have b1:=qG (J2 (e:=e1) (E:=alE m1 e1 m2 e2) (C:=2000000) h1 (by omega))
 have b2:=qG (J2 (e:=e2) (E:=alE m1 e1 m2 e2) (C:=2000000) h2 (by omega))
 rw[←aqM k1 k2]
 have y1:alA m1 e1 (alE m1 e1 m2 e2)=0→s1=false:=fun h=>z1 (Qo.1 h)
 have y2:alA m2 e2 (alE m1 e1 m2 e2)=0→s2=false:=fun h=>z2 (Qo.1 h)
 refine Con.of_w (rs:=[.tmp 4]) Tryz.func132 rfl Tryz.ntmps132 rfl ?_
 simp(disch:=omega)only[go_sem]
 refine qa (aee s1 m1 e1 s2 m2 e2 h1 h2 he1 he2 z1 z2) ?_
 simp(disch:=omega)only[go_sem]
 refine qm (aqx s1 (alA m1 e1 (alE m1 e1 m2 e2)) s2 (alA m2 e2 (alE m1 e1 m2 e2)) (by omega) (by omega) y1 y2) ?_
 simp(disch:=omega)only[go_sem]
 exact qx
theorem aj0(s1:Bool)(m1:Nat)(e1:Int)(s2:Bool)(m2:Nat)(e2:Int)(h1:dyB s1 (lim m1) e1=true)(h2:dyB s2 (lim m2) e2=true):
  Con Tryz.prog 52 true [.ag [.v (.bool (s1)),.sl (lim (m1)).length (qc (lim (m1))),.v (.int .i64 (e1))],.ag [.v (.bool (s2)),.sl (lim (m2)).length (qc (lim (m2))),.v (.int .i64 (e2))]] [] (isA (.v (.int .i64 (zK (dv 3000 s1 m1 e1) (dv 3000 s2 m2 e2))))):=by
 obtain⟨n1,q1,b1,c1,d1,_,f1⟩:=QE h1
 obtain⟨n2,q2,b2,c2,d2,_,f2⟩:=QE h2
 obtain rfl:=yk q1
 obtain rfl:=yk q2
 have k1:=Qk s1 (lim m1) e1 (by omega)
 have k2:=Qk s2 (lim m2) e2 (by omega)
 rw[h1]at k1
 rw[h2]at k2
 refine Con.of_w (rs:=[.tmp 4]) Tryz.func52 rfl Tryz.ntmps52 rfl ?_
 simp(disch:=omega)only[go_sem]
 refine qm (k1) ?_
 simp(disch:=omega)only[go_sem]
 refine qm (k2) ?_
 simp(disch:=omega)only[go_sem]
 refine qm (aqv 3000 s1 m1 e1 s2 m2 e2 (by omega) (by omega) (by omega) (by omega) (by omega) (by omega) f1 f2) ?_
 simp(disch:=omega)only[go_sem]
 exact qx
theorem aMW(s:Bool)(m:Nat)(e:Int)(h:dyB s (lim m) e=true):Con Tryz.prog 125 false [.ag [.v (.bool (s)),.sl (lim (m)).length (qc (lim (m))),.v (.int .i64 (e))]] [] (isA (.ag [.v (.bool ((!s)&&decide (m≠0))),.sl (lim (m)).length (qc (lim (m))),.v (.int .i64 (e))])):=by
 refine Con.frzA ?_
 obtain⟨n1,q1,b1,c1,d1,_,f1⟩:=QE h
 obtain rfl:=yk q1
 have k1:=Qk s (lim m) e (by omega)
 rw[h]at k1
 refine Con.of_w (rs:=[.cell 2 40]) Tryz.func125 rfl Tryz.ntmps125 rfl ?_
 simp(disch:=omega)only[go_sem]
 refine qm (k1) ?_
 simp(disch:=omega)only[go_sem]
 refine qa (aqu s m e (by omega)) ?_
 simp(disch:=omega)only[go_sem]
 exact qk
theorem aaC(n:Int)(h: -9223372036854775808≤n∧n<9223372036854775808):Con Tryz.prog 127 false [.v (.int .i64 n)] [] (isA (.ag [.v (.bool (decide (n<0))),.sl (lim (n.natAbs)).length (qc (lim (n.natAbs)))])):=by
 refine Con.frzA ?_
 refine Con.of_w (rs:=[.cell 2 38]) Tryz.func127 rfl Tryz.ntmps127 rfl ?_
 simp(disch:=omega)only[go_sem]
 refine qa (YS n h) ?_
 simp(disch:=omega)only[go_sem]
 exact qk
theorem aLS(e:Int):Con Tryz.prog 203 true [.v (.int .i64 e)] [] (isA (.v (.bool (decide (-12000≤e)&&decide (e≤12000))))):=by
 refine Con.of_aw Tryz.func203 rfl Tryz.ntmps203 (by simp) (by simp) (by simp) (W.sound ?_)
 show @W Tryz.prog 9 ⟨_⟩ ⟨fun x σ=>@za _ _ _ ⟨_⟩ _ ⟨_⟩ x σ⟩ _ _
 simp(disch:=omega)only[go_sem]
 repeat' first
  |simp(disch:=omega)only[go_sem, *]
  |(with_reducible refine qe (fun _=>?_) (fun _=>?_))
  |(with_reducible refine zB (fun _=>?_) (fun _=>?_))
  |(with_reducible refine ae1 (fun _=>?_) (fun _=>?_))
  |(with_reducible refine Qd (fun _=>?_) (fun _=>?_))
 all_goals exact qy (by simp(disch:=omega)only[go_sem]) (by simp(disch:=omega)only[go_sem]) ⟨by simp_all[zj]<;>omega,rfl,rfl⟩
theorem aaE(s:Bool)(m:Nat)(e:Int)(h:zN s (lim m)=true)(he: -12000≤e∧e≤12000):
  Con Tryz.prog 126 false [.ag [.v (.bool (s)),.sl (lim (m)).length (qc (lim (m)))],.v (.int .i64 e)] [] (isA (if j0 m e=true then .tu [.ag [.v (.bool (oS s m)),.sl (lim (oM m)).length (qc (lim (oM m))),.v (.int .i64 (oE m e))],.v (.bool true)]else .tu [.ag [.v (.bool (false)),.sl (lim (0)).length (qc (lim (0))),.v (.int .i64 (0))],.v (.bool false)])):=by
 refine Con.frzA ?_
 have h':=h
 simp only[zN,Bool.and_eq_true]at h'
 obtain⟨_,hl⟩:=Zf h'.1
 have hb:=afk (m:=m)
 have hb2:=qG (Nat.le_trans (j7 (aJZ m)) hb)
 have k1:=QT s (lim m) (by omega)
 rw[h]at k1
 have k2:=aLS e
 rw[decide_eq_true he.1,decide_eq_true he.2]at k2
 have cf:=ajM s m e (by omega)
 cases hd:j0 m e
 ·rw[hd,if_neg (by simp),qo]at cf
  rw[if_neg (by simp),qo]
  refine Con.of_w (rs:=[.cell 4 40,.tmp 5]) Tryz.func126 rfl Tryz.ntmps126 rfl ?_
  simp(disch:=omega)only[go_sem]
  refine qm (k1) ?_
  simp(disch:=omega)only[go_sem]
  refine qm (k2) ?_
  simp(disch:=omega)only[go_sem]
  refine qa (QL s m e (by omega) (by omega)) ?_
  simp(disch:=omega)only[go_sem]
  refine qa (cf) ?_
  simp(disch:=omega)only[go_sem]
  exact qk
 ·rw[hd,if_pos rfl]at cf
  rw[if_pos rfl]
  refine Con.of_w (rs:=[.cell 4 40,.tmp 5]) Tryz.func126 rfl Tryz.ntmps126 rfl ?_
  simp(disch:=omega)only[go_sem]
  refine qm (k1) ?_
  simp(disch:=omega)only[go_sem]
  refine qm (k2) ?_
  simp(disch:=omega)only[go_sem]
  refine qa (QL s m e (by omega) (by omega)) ?_
  simp(disch:=omega)only[go_sem]
  refine qa (cf) ?_
  simp(disch:=omega)only[go_sem]
  exact qk
theorem aaQ:tz 1=0:=aeJ rfl
theorem yR:lim 1=[1]:=by rw[jY (by omega)];simp[qo]
/-! ### Sameness-/
theorem ad7(a b:Nat)(la:(lim a).length≤2^40)(lb:(lim b).length≤2^40):Con Tryz.prog 181 true [.ag [.sl (lim (a)).length (qc (lim (a)))],.ag [.sl (lim (b)).length (qc (lim (b)))]] [] (isA (.v (.bool (decide (a=b))))):=by
 refine Con.of_w (rs:=[.tmp 4]) Tryz.func181 rfl Tryz.ntmps181 rfl ?_
 simp(disch:=omega)only[go_sem]
 refine zB (fun h1=>?_) (fun h1=>?_)
 ·simp(disch:=omega)only[go_sem,h1]
  rw[decide_eq_false (fun e=>h1 (by rw[e]))]
  exact qx
 ·have hl:(lim a).length=(lim b).length:=by omega
  simp(disch:=omega)only[go_sem,h1]
  refine qi (fun i:Nat=>[(2,.pt 40000000 0),(3,.pt 50000000 0),(5,.v (.int .i64 i))]) (fun _=>[(40000000,.own 0 [.sl (lim (a)).length (qc (lim (a)))]),(50000000,.own 0 [.sl (lim (b)).length (qc (lim (b)))])])
   (fun i=>i≤(lim a).length∧(lim a).take i=(lim b).take i) (fun i=>(lim a).length-i) 0 ⟨by omega,by simp⟩ (Le.lst [] _ _ rfl (by simp(disch:=omega)only[go_sem];try omega) (by simp(disch:=omega)only[go_sem])) ?_
  rintro i ⟨hi,ht⟩
  simp(disch:=omega)only[go_sem]
  refine qe (fun h2=>?_) (fun h2=>?_)
  ·simp(disch:=omega)only[go_sem,h2]
   refine qs rfl [⟨0,[],[]⟩,⟨1,[],[]⟩,⟨2,[1],[]⟩,⟨3,[],[]⟩,⟨4,[],[]⟩,⟨5,[1,4],[]⟩,⟨6,[1,4],[]⟩,⟨7,[1,4,6],[]⟩,⟨8,[1,4],[]⟩,⟨9,[1,4],[]⟩,⟨10,[],[]⟩] (by kernel_rfl) ?_
   simp(disch:=omega)only[go_sem]
   refine⟨by omega,by omega,by omega,by omega,?_⟩
   refine zB (fun h3=>?_) (fun h3=>?_)
   ·simp(disch:=omega)only[go_sem,h3]
    rw[decide_eq_false (fun e=>h3 (by rw[e]))]
    exact qx
   ·simp(disch:=omega)only[go_sem,h3]
    refine qb (i+1) [] ⟨by omega,?_⟩ (by show(lim a).length-(i+1)<(lim a).length-i;omega) rfl (by simp(disch:=omega)only[go_sem];try omega) (by simp(disch:=omega)only[go_sem])
    rw[jF (l:=lim a) (by omega),jF (l:=lim b) (by omega),ht,h3]
  ·simp(disch:=omega)only[go_sem,h2]
   have:i=(lim a).length:=by omega
   subst this
   have ht2:lim a=lim b:=by
    have h4:=List.take_of_length_le (l:=lim b) (i:=(lim a).length) (by omega)
    rw[List.take_length,h4]at ht
    exact ht
   rw[decide_eq_true (yk ht2)]
   exact qx
theorem YO(s1:Bool)(m1:Nat)(s2:Bool)(m2:Nat)(l1:(lim m1).length≤2^40)(l2:(lim m2).length≤2^40):Con Tryz.prog 100 true [.ag [.v (.bool (s1)),.sl (lim (m1)).length (qc (lim (m1)))],.ag [.v (.bool (s2)),.sl (lim (m2)).length (qc (lim (m2)))]] [] (isA (.v (.bool ((s1==s2)&&decide (m1=m2))))):=by
 refine Con.of_w (rs:=[.tmp 4]) Tryz.func100 rfl Tryz.ntmps100 rfl ?_
 cases hs:(s1==s2)
 ·simp(disch:=omega)only[go_sem,hs]
  exact qx
 ·simp(disch:=omega)only[go_sem,hs]
  refine qm (ad7 m1 m2 l1 l2) ?_
  simp(disch:=omega)only[go_sem]
  exact qx
theorem JQ(s1:Bool)(m1:Nat)(e1:Int)(s2:Bool)(m2:Nat)(e2:Int)(l1:(lim m1).length≤2^40)(l2:(lim m2).length≤2^40):Con Tryz.prog 27 true [.ag [.v (.bool (s1)),.sl (lim (m1)).length (qc (lim (m1))),.v (.int .i64 (e1))],.ag [.v (.bool (s2)),.sl (lim (m2)).length (qc (lim (m2))),.v (.int .i64 (e2))]] [] (isA (.v (.bool (decide (e1=e2)&&((s1==s2)&&decide (m1=m2)))))):=by
 cases he:decide (e1=e2)
 ·have he':¬e1=e2:=by simpa using he
  refine Con.of_w (rs:=[.tmp 4]) Tryz.func27 rfl Tryz.ntmps27 rfl ?_
  simp(disch:=omega)only[go_sem,he']
  exact qx
 ·refine Con.of_w (rs:=[.tmp 4]) Tryz.func27 rfl Tryz.ntmps27 rfl ?_
  simp(disch:=omega)only[go_sem,he]
  refine qm (YO s1 m1 s2 m2 l1 l2) ?_
  simp(disch:=omega)only[go_sem]
  exact qx
end Go.Ab
namespace Go.Ab
open Go Go.Proofs
theorem aaw(e:Int)(he: -3000≤e∧e≤3000):Con Tryz.prog 47 false [.v (.int .i64 1),.v (.int .i64 e)] [] (isA (.ag [.v (.bool (false)),.sl (lim (1)).length (qc (lim (1))),.v (.int .i64 (e))])):=by
 refine Con.frzA ?_
 have hm:oM 1=1:=by unfold oM;rw[aaQ]
 have hE:oE 1 e=e:=by unfold oE;rw[aaQ,if_neg (by decide)];simp
 have hf:j0 1 e=true:=by
  unfold j0 jJ;rw[hm,hE,yR]
  simp only[Bool.and_eq_true,decide_eq_true_eq]
  exact⟨by decide,by omega,by omega⟩
 have c1:=aaE false 1 e (by rw[yR];decide) (by omega)
 rw[if_pos hf,hm,hE]at c1
 have c0:=aaC 1 (by omega)
 have e1:decide ((1:Int)<0)=false:=rfl
 have e2:(1:Int).natAbs=1:=rfl
 rw[e1,e2]at c0
 refine Con.of_aw Tryz.func47 rfl Tryz.ntmps47 (by simp) (by simp) (by simp) (W.sound ?_)
 show @W Tryz.prog 15 ⟨_⟩ ⟨fun x σ=>@za _ _ _ ⟨_⟩ _ ⟨_⟩ x σ⟩ _ _
 simp(disch:=omega)only[go_sem]
 refine qa (c0) ?_
 simp(disch:=omega)only[go_sem]
 refine qa (c1) ?_
 simp(disch:=omega)only[go_sem]
 refine qO (by simp(disch:=omega)only[go_sem]) ?_
 show qF _ 6 _=_
 rfl
theorem aFl:tz 1024=10:=Qq (a:=0) (by decide)
theorem aTg:(ExV.can ⟨false,1024, -10⟩)=⟨false,1,0⟩:=by
 show(⟨oS false 1024,oM 1024,oE 1024 (-10)⟩:ExV)=_
 unfold oS oM oE
 rw[aFl];rfl
theorem aqU:(ExV.can ⟨false,1, -14⟩)=⟨false,1, -14⟩:=by
 show(⟨oS false 1,oM 1,oE 1 (-14)⟩:ExV)=_
 unfold oS oM oE
 rw[aaQ];rfl
theorem YD(x:ExV)(a:Nat)(s:Bool)(e:Int)(h:x.can=⟨s,a,e⟩)(h1:(lim a).length≤100)(h2: -3000≤e∧e≤3000):x.fit=true:=by
 have e1:oM x.m=a:=congrArg ExV.m h
 have e2:oE x.m x.e=e:=congrArg ExV.e h
 unfold ExV.fit j0 jJ
 rw[e1,e2]
 simp only[Bool.and_eq_true,decide_eq_true_eq]
 exact⟨h1,h2⟩
theorem aeu(n:Nat)(h1:n=1):Con Tryz.prog 89 false [.ag [.v (.int .i64 (n)),.sl ([ex0]).length (ql ExV.cs ([ex0]))],.v (.int .i64 (-10))] [] (isA (.tu [.ag [.v (.int .i64 (n)),.sl ([ex1]).length (ql ExV.cs ([ex1]))],.ag [.v (.bool (false)),.sl (lim (1)).length (qc (lim (1))),.v (.int .i64 (-14))],.v (.bool true)])):=by
 have c:=aet n [ex0] (-10) aEV (by omega) (by rw[h1];rfl) (by omega) (aat n h1) (aqD n h1) (by rw[h1];decide+kernel) (by decide+kernel) (by
  rw[show aEV=[⟨⟨false,16383, -14⟩,⟨false,16385, -14⟩⟩] by decide+kernel,List.all_cons,List.all_nil]
  have t1:tz 16383=0:=aeJ rfl
  have t2:tz 16385=0:=aeJ rfl
  have f1:ExV.fit ⟨false,16383, -14⟩=true:=YD _ 16383 false (-14) (by show(⟨oS false 16383,oM 16383,oE 16383 (-14)⟩:ExV)=_;unfold oS oM oE;rw[t1];rfl) (by have:=qG (m:=16383) (B:=20) (zE.2 (by decide));omega) (by omega)
  have f2:ExV.fit ⟨false,16385, -14⟩=true:=YD _ 16385 false (-14) (by show(⟨oS false 16385,oM 16385,oE 16385 (-14)⟩:ExV)=_;unfold oS oM oE;rw[t2];rfl) (by have:=qG (m:=16385) (B:=20) (zE.2 (by decide));omega) (by omega)
  unfold SpV.fit
  rw[f1,f2];rfl)
 have eX:ae4 n aEV (-10)=[⟨false,1024, -10⟩]:=by rw[h1];decide+kernel
 have eF:jL n aEV (-10)=⟨false,1, -14⟩:=by rw[h1];decide+kernel
 rw[eX,eF]at c
 have f1:ExV.fit ⟨false,1024, -10⟩=true:=YD _ 1 false 0 aTg (by rw[yR];decide) (by omega)
 have f2:ExV.fit ⟨false,1, -14⟩=true:=YD _ 1 false (-14) aqU (by rw[yR];decide) (by omega)
 rw[List.all_cons,List.all_nil,f1,f2,if_pos (by rfl),List.map_cons,List.map_nil,aTg,aqU]at c
 exact c
set_option maxRecDepth 100000 in
theorem Z8:Con Tryz.prog 16 true [] [] (isA (.v (.bool true))):=by
 obtain⟨n,hn⟩:∃n:Nat,n=1:=⟨1,rfl⟩
 have c:=aeu n hn
 have en:(n:Int)=1:=by omega
 have hrow:ql ExV.cs [ex0]=[.v (.bool false),.sl 0 [],.v (.int .i64 0)]:=by
  simp[ql,ExV.cs,ex0,qo,qc]
 rw[en,hrow]at c
 have hr1:ql ExV.cs [ex1]=[.v (.bool false),.sl (lim 1).length (qc (lim 1)),.v (.int .i64 0)]:=by
  simp[ql,ExV.cs,ex1]
 rw[hr1]at c
 have cd1:=aaw 0 (by omega)
 have cd2:=aaw (-9) (by omega)
 have csd:=JQ false 1 0 false 1 0 (by rw[yR];decide) (by rw[yR];decide)
 rw[show(decide ((0:Int)=0)&&((false==false)&&decide ((1:Nat)=1)))=true from rfl]at csd
 have hb:∀e:Int, -3000≤e∧e≤3000→dyB false (lim 1) e=true:=fun e he=>by
  rw[yR];unfold dyB
  rw[show zN false [1]=true by decide,decide_eq_true he.1,decide_eq_true he.2];rfl
 have ccm:=aj0 false 1 (-14) false 1 (-9) (hb _ (by omega)) (hb _ (by omega))
 have hle:zK (dv 3000 false 1 (-14)) (dv 3000 false 1 (-9))≤0:=(aqN _ _).1.2 (by
  unfold dv sv
  rw[if_neg (by simp),show(-9+((3000:Nat):Int)).toNat=(-14+((3000:Nat):Int)).toNat+5 by rfl,Int.pow_add]
  have:(0:Int)<2^(-14+((3000:Nat):Int)).toNat:=Int.pow_pos (by omega)
  generalize (2:Int)^(-14+((3000:Nat):Int)).toNat=p at*
  omega)
 have q3:decide (zK (dv 3000 false 1 (-14)) (dv 3000 false 1 (-9))≤0)=true:=decide_eq_true hle
 generalize zK (dv 3000 false 1 (-14)) (dv 3000 false 1 (-9))=C at*
 refine Con.of_aw Tryz.func16 rfl Tryz.ntmps16 (by simp) (by simp) (by simp)
  (AW.seqLe (E:=[(0,.v (.bool false))]) (H:=[]) (W.sound ?_) (AW.regSplit (E:=[(0,.v (.bool false)),(7,.ag [.v (.int .i64 1),.sl 1 [.v (.bool false),.sl 0 [],.v (.int .i64 0)]])]) (H:=[]) 3 (by simp only[List.take_succ_cons,List.take_zero];rfl) (by simp only[List.drop_succ_cons,List.drop_zero];rfl) ?_ ?_))
 ·show @W Tryz.prog 38 ⟨_⟩ ⟨_⟩ _ _
  simp(disch:=omega)only[go_sem]
  exact Le.lst [] _ _ rfl (by simp(disch:=omega)only[go_sem]) (by simp(disch:=omega)only[go_sem])
 ·simp(disch:=omega)only[go_sem]
  exact(Le.nilC 80000000 1 (zo:=3) (cs:=[.v (.bool false),.v (.slice none 0 0),.v (.int .i64 0)]) (by simp(disch:=omega)only[go_sem]) rfl).trans ((Le.frz 80000000 (z:=3) (ks:=[.v (.bool false),.sl 0 [],.v (.int .i64 0)]) (by simp(disch:=omega)only[go_sem,List.set_cons_succ,List.set_cons_zero]) rfl (by simp(disch:=omega)only[go_sem])).trans (Le.lst [] _ _ rfl (by simp(disch:=omega)only[go_sem]) (by simp(disch:=omega)only[go_sem])))
 show @Ch Tryz.prog 38 ⟨_⟩ ⟨_⟩ ⟨fun σ=>@W Tryz.prog 38 ⟨_⟩ ⟨fun x σ=>@za _ _ _ ⟨_⟩ _ ⟨_⟩ x σ⟩ σ.env σ.hp⟩ _ _
 simp(disch:=omega)only[go_sem]
 refine qa (c) ?_
 simp(disch:=omega)only[go_sem]
 refine qs rfl [⟨0,[],[]⟩,⟨1,[],[]⟩,⟨2,[],[]⟩,⟨3,[],[]⟩,⟨4,[],[]⟩,⟨5,[],[]⟩,⟨6,[],[]⟩,⟨7,[],[]⟩,⟨8,[],[]⟩,⟨9,[],[]⟩,⟨10,[],[]⟩,⟨11,[],[]⟩,⟨12,[],[]⟩,⟨13,[],[]⟩,⟨14,[],[]⟩,⟨15,[],[]⟩,⟨16,[],[]⟩,⟨17,[14,16],[]⟩,⟨18,[],[]⟩,⟨19,[],[]⟩,⟨20,[],[]⟩,⟨21,[],[]⟩,⟨22,[21],[]⟩,⟨23,[],[]⟩,⟨24,[],[]⟩,⟨25,[],[]⟩,⟨26,[],[]⟩] (by kernel_rfl) ?_
 simp(disch:=omega)only[go_sem]
 refine qa (cd1) ?_
 simp(disch:=omega)only[go_sem]
 refine qm (csd) ?_
 simp(disch:=omega)only[go_sem]
 refine qa (cd2) ?_
 simp(disch:=omega)only[go_sem]
 refine qm (ccm) ?_
 simp(disch:=omega)only[go_sem]
 simp(disch:=omega)only[go_sem,q3]
 exact qx
end Go.Ab
namespace Go.Ab
theorem aLM{K:Nat}{s:Bool}{m:Nat}{e:Int}{s':Bool}{m':Nat}{e':Int}(he: -(K:Int)≤e)(he': -(K:Int)≤e')(h:dv K s m e=dv K s' m' e'):oS s m=oS s' m'∧oM m=oM m'∧oE m e=oE m' e':=by
 by_cases h0:m=0
 ·have h0':m'=0:=by rw[h0,QF]at h;exact ajz.1 h.symm
  rw[h0,h0'];exact⟨rfl,rfl,rfl⟩
 ·obtain⟨rfl,hM,hE,h0'⟩:=aS0 h0 he he' h
  refine⟨?_,hM,hE⟩
  unfold oS;rw[if_neg h0,if_neg h0']
end Go.Ab
namespace Go.Ab
open Go Go.Proofs
def ExV.val(K:Nat)(x:ExV):Int:=dv K x.s x.m x.e
theorem jq{x:ExV}(h:x.ok=true):(-3000≤x.e∧x.e≤3000)∧bl x.m≤1600∧(lim x.m).length≤100∧(x.m=0→x.s=false∧x.e=0)∧(x.m % 2=1∨x.m=0):=by
 obtain⟨m,e1,h1,h2,h3,h4,h5⟩:=QE h
 obtain rfl:=yk e1
 exact⟨h3,h2,h1,fun h0=>⟨h5 h0,by omega⟩,by omega⟩
theorem aEL{x:ExV}(h:x.ok=true):x.can=x:=by
 obtain⟨h1,h2,h3,h4,h5⟩:=jq h
 show(⟨oS x.s x.m,oM x.m,oE x.m x.e⟩:ExV)=x
 obtain⟨s,m,e⟩:=x
 dsimp only at*
 rcases h5 with o|h0
 ·have h0:m≠0:=by omega
  have ht:=aeJ o
  have g1:oS s m=s:=by unfold oS;rw[if_neg h0]
  have g2:oM m=m:=by have:=@aEN m;rw[ht]at this;simpa using this
  have g3:oE m e=e:=by unfold oE;rw[if_neg h0,ht];simp
  rw[g1,g2,g3]
 ·obtain⟨rfl,rfl⟩:=h4 h0
  rw[h0,ZK];rfl
theorem aE7{x:ExV}(h:x.fit=true):x.can.ok=true:=by
 show dyB (oS x.s x.m) (lim (oM x.m)) (oE x.m x.e)=true
 rw[ZY];exact h
theorem ZX:ex0.ok=true:=by show dyB false (lim 0) 0=true;rw[qo];decide
theorem aqT{K:Nat}{x:ExV}(h: -(K:Int)≤x.e):x.can.val K=x.val K:=by
 show dv K (oS x.s x.m) (oM x.m) (oE x.m x.e)=_
 rw[aLL h,ba9];rfl
theorem Zd{K:Nat}{x y:ExV}(h1: -(K:Int)≤x.e)(h2: -(K:Int)≤y.e):(x.plus y).val K=x.val K+y.val K:=bbu h1 h2
theorem Zn{K K':Nat}{x y:ExV}(h1: -(K:Int)≤x.e)(h2: -(K':Int)≤y.e):(x.times y).val (K+K')=x.val K*y.val K':=by
 show dv (K+K') ((x.s != y.s)&&decide (x.m*y.m≠0)) (x.m*y.m) (x.e+y.e)=_
 rw[aS1];exact aSZ h1 h2
theorem aMF{K:Nat}{x:ExV}:x.abs.val K=(x.val K).natAbs:=by
 show dv K false x.m x.e=((dv K x.s x.m x.e).natAbs:Int)
 unfold dv sv
 rw[Int.natAbs_mul]
 have hp:0≤(2:Int)^(x.e+(K:Int)).toNat:=Int.le_of_lt (Int.pow_pos (by omega))
 have e:(((2:Int)^(x.e+(K:Int)).toNat).natAbs:Int)=2^(x.e+(K:Int)).toNat:=by omega
 rw[Int.natCast_mul,e]
 cases x.s<;>simp
theorem aM7{K j:Nat}{x:ExV}(h: -(K:Int)≤x.e):x.val (K+j)=x.val K*2^j:=by
 unfold ExV.val dv
 have:(x.e+((K+j:Nat):Int)).toNat=(x.e+(K:Int)).toNat+j:=by omega
 rw[this,Int.pow_add,Int.mul_assoc]
theorem aoV{K:Int}{x y:ExV}(h1:K≤x.e)(h2:K≤y.e):K≤(x.plus y).e:=QY h1 h2
theorem aOG{K:Nat}{x y:ExV}(h1:x.ok=true)(h2:y.ok=true)(k1: -(K:Int)≤x.e)(k2: -(K:Int)≤y.e)(h:x.val K=y.val K):x=y:=by
 obtain⟨g1,g2,g3⟩:=aLM k1 k2 h
 rw[←aEL h1,←aEL h2]
 show(⟨oS x.s x.m,oM x.m,oE x.m x.e⟩:ExV)=⟨oS y.s y.m,oM y.m,oE y.m y.e⟩
 rw[g1,g2,g3]
theorem aL1(x:ExV):x.can.ok=x.fit:=ZY x.s x.m x.e
def ExV.tel(x:ExV):ExV:=if x.fit=true then x.can else ex0
theorem aeO(x:ExV):x.tel.ok=true:=by
 unfold ExV.tel;split
 ·rename_i h;exact aE7 h
 ·exact ZX
theorem aqi(x y:ExV)(hx:x.ok=true)(hy:y.ok=true):Con Tryz.prog 27 true [.ag [.v (.bool (x).s),.sl (lim (x).m).length (qc (lim (x).m)),.v (.int .i64 (x).e)],.ag [.v (.bool (y).s),.sl (lim (y).m).length (qc (lim (y).m)),.v (.int .i64 (y).e)]] [] (isA (.v (.bool (decide (x=y))))):=by
 have c:=JQ x.s x.m x.e y.s y.m y.e (by have:=(jq hx).2.2.1;omega) (by have:=(jq hy).2.2.1;omega)
 have e:(decide (x.e=y.e)&&((x.s==y.s)&&decide (x.m=y.m)))=decide (x=y):=by
  obtain⟨s,m,e⟩:=x
  obtain⟨t,n,f⟩:=y
  rw[Bool.eq_iff_iff]
  simp only[Bool.and_eq_true,decide_eq_true_eq,beq_iff_eq,ExV.mk.injEq]
  exact⟨fun⟨a,b,c⟩=>⟨b,c,a⟩,fun⟨a,b,c⟩=>⟨c,a,b⟩⟩
 rw[e]at c;exact c
/-! ### Floats that are numbers-/
def flD(F:FlV):ExV:=⟨oS (xS F.k F.s) F.m.toNat,oM F.m.toNat,oE F.m.toNat F.e⟩
end Go.Ab
namespace Go.Ab
open Go
section
variable {P:Program}{f:FuncId}{args:List AV}{bs:List Ob}{post:AV→List Ob→List Ob→Prop}
theorem Con.frzB(h:Con P f false args bs post)(hm:∀r hs bs',post r hs bs'→(∀ob∈bs',ob.men fun _=>False)∧∀ob∈hs,ob.men fun _=>False):
  Con P f false args bs (fun r' hs' bs'=>hs'=[]∧∃r hs,post r hs bs'∧r'=qF (rhp hs []) 6 r):=by
 intro R ι w vs h1 h2 h3 h4 h5
 refine(h R ι w vs h1 h2 h3 h4 h5).mono ?_
 rintro e w' ⟨x,r,hs,bs',R',ι',he,hp,hF⟩
 obtain⟨mB,mH⟩:=hm _ _ _ hp
 have hfree:∀m,10000000≤m→rhp hs [] m=.free:=fun m hm=>by simp[rhp,hm]
 have hlow:∀m,m<10000000→rhp hs [] m=rhp hs bs' m:=fun m hm=>by unfold rhp;rw[if_neg (by omega),if_neg (by omega)]
 have hnil:∀m,m<10000000→rhp [] bs' m=.free:=fun m hm=>by unfold rhp;rw[if_neg (by omega)];simp
 have hhi:∀m,10000000≤m→rhp [] bs' m=rhp hs bs' m:=fun m hm=>by unfold rhp;rw[if_pos hm,if_pos hm]
 have hsm:∀{m z cs},rhp hs [] m=.own z cs→m<10000000∧rhp hs bs' m=.own z cs:=by
  intro m z cs e
  rcases Nat.lt_or_ge m 10000000 with hm|hm
  ·exact⟨hm,by rw[←hlow m hm];exact e⟩
  ·rw[hfree m hm]at e;cases e
 have hbg:∀{m z cs},rhp [] bs' m=.own z cs→10000000≤m∧rhp hs bs' m=.own z cs:=by
  intro m z cs e
  rcases Nat.lt_or_ge m 10000000 with hm|hm
  ·rw[hnil m hm]at e;cases e
  ·exact⟨hm,by rw[←hhi m hm];exact e⟩
 have hget:∀(l:List Ob) (k z:Nat) (cs:List AV),(∀ob∈l,ob.men fun _=>False)→l.getD k .free=.own z cs→AllL (fun _=>False) cs:=by
  intro l k z cs hl e
  rw[List.getD_eq_getElem?_getD]at e
  rcases Nat.lt_or_ge k l.length with hk|hk
  ·rw[List.getElem?_eq_getElem hk]at e
   have:=hl _ (List.getElem_mem hk)
   simp only[Option.getD_some]at e
   rw[e]at this;exact this
  ·rw[List.getElem?_eq_none hk]at e;cases e
 have hO:HpOk R' ι' w' (rhp hs []):=by
  refine⟨fun m=>?_,fun m z cs B e hB hr=>hF.nR m z cs B (hsm e).2 hB (.inr hr),fun m m' z z' cs cs' B B' e e'=>hF.inj m m' z z' cs cs' B B' (hsm e).2 (hsm e').2,fun m z cs e=>?_⟩
  ·rcases Nat.lt_or_ge m 10000000 with hm|hm
   ·rw[hlow m hm];exact hF.okF m hm
   ·rw[hfree m hm];trivial
  ·have h6:=(hsm e).1
   unfold rhp at e
   rw[if_neg (by omega)]at e
   exact(hget hs m z cs mH e).mono fun _ h=>h.elim
 have hown:∀{m z cs B},rhp hs [] m=.own z cs→ι' m=some B→w.heap.size≤B.b∧B.b<w'.heap.size:=by
  intro m z cs B e hB
  obtain⟨hm,e⟩:=hsm e
  refine⟨hF.fresh m z cs B hm e hB,?_⟩
  have:=hF.okF m hm
  rw[e,hB]at this
  obtain⟨c,T,lo,hi,g1,_⟩:=this
  rcases Nat.lt_or_ge B.b w'.heap.size with h'|h'
  ·exact h'
  ·simp[Array.getElem?_eq_none h']at g1
 refine⟨x,qF (rhp hs []) 6 r,[],bs',fun b=>R' b∨arz (rhp hs []) ι' b,ι',he,⟨rfl,r,hs,hp,rfl⟩,?_⟩
 refine⟨hF.ext,fun b hb=>?_,fun b hb=>?_,.fr _ _ (zF hO (fun _ h=>.inl h) (fun _ h=>.inr h) 6 hF.rep),jf 6 r,fun m hm=>?_,fun m hm=>?_,fun m z cs B e hB=>?_,
  fun m m' z z' cs cs' B B' e e'=>hF.inj m m' z z' cs cs' B B' (hbg e).2 (hbg e').2,fun m z cs e=>?_,fun m z cs B hm e=>?_,hF.len,hF.bown,hF.bnf⟩
 ·rcases hb with hb|⟨m,z,cs,B,e,hB,rfl⟩
  ·exact hF.rlt b hb
  ·exact(hown e hB).2
 ·rcases hb with hb|⟨m,z,cs,B,e,hB,rfl⟩
  ·exact hF.rnew b hb
  ·exact .inl (hown e hB).1
 ·rw[hnil m hm];trivial
 ·rw[hhi m hm]
  exact(hF.okB m hm).mono (fun _ _=>rfl) (fun _ _ _ _ _=>rfl) (fun b hb=>hb.elim .inl fun h=>.inr (.inl h)) (fun z cs e=>AllL.of_mem fun a _=>AV.all_true (fun _=>rfl) a)
 ·obtain⟨hm,e⟩:=hbg e
  have h6:=hF.nR m z cs B e hB
  rintro(hr|hr|⟨m',z',cs',B',e',hB',hb⟩)
  ·exact h6 (.inl hr)
  ·exact h6 (.inr hr)
  ·obtain⟨hm',e'⟩:=hsm e'
   have:=hF.inj m' m z' z cs' cs B' B e' e hB' hB hb
   omega
 ·have h6:=(hbg e).1
  unfold rhp at e
  rw[if_pos h6]at e
  exact(hget bs' _ z cs mB e).mono fun _ h=>h.elim
 ·rw[hnil m hm]at e;cases e
end
end Go.Ab
namespace Go.Ab
open Go
structure IvV where
 lo:DyV
 hi:DyV
def IvV.cs(x:IvV):List AV:=x.lo.cs++x.hi.cs
def dy0:DyV:=⟨false,[],0⟩
def iv0:IvV:=⟨dy0,dy0⟩
theorem aPa(x:IvV):x.cs.length=6:=rfl
theorem aET{ρ:Nat→Nat}(x:IvV):zM ρ x.cs=x.cs:=rfl
theorem apy{hp:Nat→Ob}{k:Nat}(x:IvV):x.cs.map (qF hp (k+1))=x.cs:=rfl
theorem aEU{p:Nat→Prop}(x:IvV):AllL p x.cs:=by simp[IvV.cs,DyV.cs,AllL,AV.All]
theorem aKK{l:List IvV}:(ql IvV.cs l).length=l.length*6:=yP aPa
theorem aKJ{ρ:Nat→Nat}{l:List IvV}:zM ρ (ql IvV.cs l)=ql IvV.cs l:=ZB aET
theorem aBW{hp:Nat→Ob}{k:Nat}{l:List IvV}:(ql IvV.cs l).map (qF hp (k+1))=ql IvV.cs l:=y5 apy
theorem aKL{p:Nat→Prop}{l:List IvV}:AllL p (ql IvV.cs l)=True:=eq_true (ZC aEU)
theorem aBX{p:Nat→Prop}{x:IvV}:AllL p x.cs=True:=eq_true (aEU x)
attribute [go_sem] aKK aKJ aBW aKL aBX aET apy
end Go.Ab
namespace Go.Ab
open Go Go.Proofs
section
variable (g:Nat)(p:IvV→Bool)
end
end Go.Ab
namespace Go.Ab
open Go Go.Proofs
/-! ### Intervals that were drawn,and those that are valid-/
def DyV.ex(d:DyV):ExV:=⟨d.s,(vl d.xs).toNat,d.e⟩
def ExV.dyv(x:ExV):DyV:=⟨x.s,lim x.m,x.e⟩
theorem ba8(x:ExV):x.dyv.ex=x:=by unfold ExV.dyv DyV.ex;rw[ze,Int.toNat_natCast]
theorem aCH{d:DyV}(h:d.ok=true):d=d.ex.dyv∧d.ex.ok=true:=by
 obtain⟨s,xs,e⟩:=d
 obtain⟨m,hm, -⟩:=QE (show dyB s xs e=true from h)
 subst hm
 have e1:(DyV.mk s (lim m) e).ex=⟨s,m,e⟩:=ba8 ⟨s,m,e⟩
 rw[e1]
 exact⟨rfl,h⟩
def ivB(v:IvV):Bool:=v.lo.ok&&(v.hi.ok&&decide (v.lo.ex.val 3000≤v.hi.ex.val 3000))
def IvV.sp(v:IvV):SpV:=⟨v.lo.ex,v.hi.ex⟩
def SpV.iv(s:SpV):IvV:=⟨s.lo.dyv,s.hi.dyv⟩
def SpV.ok(s:SpV):Bool:=s.lo.ok&&(s.hi.ok&&decide (s.lo.val 3000≤s.hi.val 3000))
def beH(v:IvV):Prop:=v.lo.xs.length≤1000∧v.hi.xs.length≤1000
def aKs(s t:SpV):SpV:=⟨zt [s.lo,t.lo],jx [s.hi,t.hi]⟩
def bd8(s t:SpV):SpV:=⟨jx [s.lo,t.lo],zt [s.hi,t.hi]⟩
def SpV.tel(s:SpV):SpV:=if s.fit=true then s.can else sp0
def bd5(s t:SpV):SpV:=if(aKs s t).lo.val 3000≤(aKs s t).hi.val 3000 then aKs s t else sp0
def beA(s:SpV)(x:ExV):Bool:=decide (s.lo.val 3000≤x.val 3000)&&decide (x.val 3000≤s.hi.val 3000)
end Go.Ab
namespace Go.Ab
open Go Go.Proofs
/-! ### Matrices that were drawn,and those that are valid-/
structure matV(n:Nat)(L:List ExV):Prop where
 n1:1≤n
 n4:n≤4
 len:L.length=n*n
 ok:∀x∈L,x.ok=true
theorem aO1{k:Int}{M:List DyV}(h:K0 k M=true):∃(n:Nat) (L:List ExV),k=n∧M=L.map ExV.dyv∧matV n L:=by
 simp only[K0,Bool.and_eq_true,decide_eq_true_eq,List.all_eq_true]at h
 obtain⟨⟨h1,h2⟩,h3,h4⟩:=h
 obtain⟨n,rfl⟩:=Int.eq_ofNat_of_zero_le (show 0≤k by omega)
 have hm:M=(M.map DyV.ex).map ExV.dyv:=by
  rw[List.map_map]
  conv=>lhs;rw[←List.map_id M]
  exact List.map_congr_left fun d hd=>(aCH (h4 d hd)).1
 refine⟨n,M.map DyV.ex,rfl,hm,by omega,by omega,?_,fun x hx=>?_⟩
 ·rw[List.length_map];exact_mod_cast h3
 ·obtain⟨d,hd,rfl⟩:=List.mem_map.1 hx
  exact(aCH (h4 d hd)).2
theorem jW(L:List ExV):ql DyV.cs (L.map ExV.dyv)=ql ExV.cs L:=by unfold ql;rw[List.map_map];rfl
theorem matV.bd{n:Nat}{L:List ExV}(h:matV n L):gbd (-3000) 4600 L:=fun x hx=>Yl (h.ok x hx)
theorem matV.bd4{n:Nat}{L:List ExV}(h:matV n L):gbd (-400000) 400000 L:=fun x hx=>(Yl (h.ok x hx)).mono (by omega) (by omega)
theorem matV.bd3{n:Nat}{L:List ExV}(h:matV n L):gbd (-190000) 190000 L:=fun x hx=>(Yl (h.ok x hx)).mono (by omega) (by omega)
theorem matV.l16{n:Nat}{L:List ExV}(h:matV n L):L.length≤16:=by rw[h.len];exact ye h.n4
theorem yE(n:Nat)(L:List ExV)(h:matV n L):Con Tryz.prog 80 true [.ag [.v (.int .i64 (n)),.sl (L).length (ql ExV.cs (L))]] [] (isA (.v (.bool true))):=by
 have c:=JZ n L (by have:=h.l16;omega) (fun x hx=>by have:=(jq (h.ok x hx)).2.2.1;omega)
 rw[show aKx n L=true by
  unfold aKx
  simp only[Bool.and_eq_true,decide_eq_true_eq,List.all_eq_true]
  exact⟨⟨by have:=h.n1;omega,by have:=h.n4;omega⟩,by rw[h.len,Int.natCast_mul],h.ok⟩]at c
 exact c
theorem QN(k:Int)(M:List DyV)(h1:M.length≤16)(h2:∀d∈M,d.xs.length≤200):Con Tryz.prog 80 true [.ag [.v (.int .i64 k),.sl M.length (ql DyV.cs M)]] [] (isA (.v (.bool (K0 k M)))):=
 aaD k M (by omega) fun d hd=>by have:=h2 d hd;omega
def gN(n:Nat)(l:List ExV):Nat:=if l.all ExV.fit=true then n else 0
def gT(l:List ExV):List ExV:=if l.all ExV.fit=true then l.map ExV.can else []
theorem Qj(n:Nat)(l:List ExV)(hl:l.length≤1000)(hb:gbd (-400000) 400000 l):Con Tryz.prog 88 false [.ag [.v (.int .i64 (n)),.sl (l).length (ql ExV.cs (l))]] [] (isA (.tu [.ag [.v (.int .i64 (gN n l)),.sl (gT l).length (ql ExV.cs (gT l))],.v (.bool (l.all ExV.fit))])):=by
 have c:=aqq n l hl hb
 unfold gN gT
 cases h:l.all ExV.fit
 ·rw[h,if_neg (by simp)]at c
  rw[if_neg (by simp),if_neg (by simp)]
  exact c
 ·rw[h,if_pos rfl]at c
  rw[if_pos rfl,if_pos rfl,List.length_map]
  exact c
theorem K9{n:Nat}{l:List ExV}(h1:1≤n)(h4:n≤4)(hl:l.length=n*n)(h:l.all ExV.fit=true):gN n l=n∧gT l=l.map ExV.can∧matV n (l.map ExV.can):=by
 refine⟨if_pos h,if_pos h,h1,h4,by rw[List.length_map];exact hl,fun x hx=>?_⟩
 obtain⟨y,hy,rfl⟩:=List.mem_map.1 hx
 exact aE7 (List.all_eq_true.1 h y hy)
theorem QU(n n':Nat)(L L':List ExV)(h:matV n L)(h':matV n' L'):Con Tryz.prog 90 true [.ag [.v (.int .i64 (n)),.sl (L).length (ql ExV.cs (L))],.ag [.v (.int .i64 (n')),.sl (L').length (ql ExV.cs (L'))]] [] (isA (.v (.bool (decide (n=n'))))):=by
 refine Con.of_aw Tryz.func90 rfl Tryz.ntmps90 (by simp) (by simp) (by simp) (W.sound ?_)
 show @W Tryz.prog 18 ⟨_⟩ ⟨fun x σ=>@za _ _ _ ⟨_⟩ _ ⟨_⟩ x σ⟩ _ _
 simp(disch:=omega)only[go_sem]
 refine qm (yE n L h) ?_
 simp(disch:=omega)only[go_sem]
 refine qm (yE n' L' h') ?_
 simp(disch:=omega)only[go_sem]
 refine qy (by simp(disch:=omega)only[go_sem]) (by simp(disch:=omega)only[go_sem]) ⟨?_,rfl,rfl⟩
 show AV.v (.bool _)=AV.v (.bool _)
 congr 2
 exact decide_eq_decide.2 ⟨fun h=>by omega,fun h=>by omega⟩
def ary(k:Int)(M:List DyV)(k':Int)(M':List DyV):Bool:=K0 k M&&(K0 k' M'&&decide (k=k'))
theorem QV(k k':Int)(M M':List DyV)(h1:M.length≤16)(h2:∀d∈M,d.xs.length≤200)(h3:M'.length≤16)(h4:∀d∈M',d.xs.length≤200):
  Con Tryz.prog 90 true [.ag [.v (.int .i64 k),.sl M.length (ql DyV.cs M)],.ag [.v (.int .i64 k'),.sl M'.length (ql DyV.cs M')]] [] (isA (.v (.bool (ary k M k' M')))):=by
 unfold ary
 have c1:=QN k M h1 h2
 have c2:=QN k' M' h3 h4
 generalize K0 k M=b1 at*
 generalize K0 k' M'=b2 at*
 cases b1
 ·refine Con.of_w (rs:=[.tmp 4]) Tryz.func90 rfl Tryz.ntmps90 rfl ?_
  simp(disch:=omega)only[go_sem]
  refine qm (c1) ?_
  simp(disch:=omega)only[go_sem]
  exact qx
 cases b2
 ·refine Con.of_w (rs:=[.tmp 4]) Tryz.func90 rfl Tryz.ntmps90 rfl ?_
  simp(disch:=omega)only[go_sem]
  refine qm (c1) ?_
  simp(disch:=omega)only[go_sem]
  refine qm (c2) ?_
  simp(disch:=omega)only[go_sem]
  exact qx
 ·refine Con.of_w (rs:=[.tmp 4]) Tryz.func90 rfl Tryz.ntmps90 rfl ?_
  simp(disch:=omega)only[go_sem]
  refine qm (c1) ?_
  simp(disch:=omega)only[go_sem]
  refine qm (c2) ?_
  simp(disch:=omega)only[go_sem]
  exact qx
theorem aaa{n:Nat}{L L':List ExV}{lo hi:Int}(hl:L.length=n*n)(hl':L'.length=n*n)(hb:gbd lo hi L)(hb':gbd lo hi L'):gbd lo (hi+1) (jh n L L'):=
 ajr fun i j hi hj=>ExV.plus_bd (qT hb (by rw[hl];exact qZ hi hj)) (qT hb' (by rw[hl'];exact qZ hi hj))
theorem ajs{n:Nat}{L L':List ExV}(h:matV n L)(h':matV n L'):gbd (-6000) 9204 (zq n L L'):=
 ajr fun i j hi hj=>(adY (l1:= -3000) (h1:=4600) (l2:= -3000) (h2:=4600) hi hj (Nat.le_refl n) h.len h'.len h.bd h'.bd (by omega)).mono (by omega) (by have:=h.n4;omega)
theorem adP{n:Nat}{L:List ExV}{y:ExV}(h:matV n L)(hy:y.ok=true):gbd (-6000) 9200 (qC n L y):=
 ajr fun i j hi hj=>ExV.times_bd (qT h.bd (by rw[h.len];exact qZ hi hj)) (Yl hy)
theorem aer(n:Nat)(L L':List ExV)(h:matV n L)(h':matV n L'):Con Tryz.prog 20 false [.ag [.v (.int .i64 (n)),.sl (L).length (ql ExV.cs (L))],.ag [.v (.int .i64 (n)),.sl (L').length (ql ExV.cs (L'))]] [] (isA (.tu [.ag [.v (.int .i64 (gN n (jh n L L'))),.sl (gT (jh n L L')).length (ql ExV.cs (gT (jh n L L')))],.v (.bool ((jh n L L').all ExV.fit))])):=by
 refine Con.frzA ?_
 have ca:=QU n n L L' h h'
 rw[decide_eq_true rfl]at ca
 have co:=aav n L L' h.n4 h.len h'.len h.bd4 h'.bd4
 have hl:(jh n L L').length=n*n:=zn
 have cm:=Qj n (jh n L L') (by have:=ye h.n4;omega) (qQ (aaa h.len h'.len h.bd h'.bd) (by omega) (by omega))
 generalize jh n L L'=y at*
 refine Con.of_w (rs:=[.cell 4 25,.tmp 5]) Tryz.func20 rfl Tryz.ntmps20 rfl ?_
 simp(disch:=omega)only[go_sem]
 refine qm (ca) ?_
 simp(disch:=omega)only[go_sem]
 refine qs rfl [⟨0,[],[]⟩,⟨2,[0],[]⟩,⟨1,[2],[]⟩,⟨3,[],[]⟩,⟨4,[],[]⟩,⟨5,[],[]⟩,⟨6,[],[]⟩,⟨7,[],[]⟩,⟨8,[],[]⟩,⟨9,[],[]⟩] (by kernel_rfl) ?_
 simp(disch:=omega)only[go_sem]
 refine qa (zv n L (by have:=h.l16;omega)) ?_
 simp(disch:=omega)only[go_sem]
 refine qa (zv n L' (by have:=h'.l16;omega)) ?_
 simp(disch:=omega)only[go_sem]
 refine qa (co) ?_
 simp(disch:=omega)only[go_sem]
 refine qa (cm) ?_
 simp(disch:=omega)only[go_sem]
 exact qk
theorem Y2(k k':Int)(M M':List DyV)(h1:M.length≤16)(h2:∀d∈M,d.xs.length≤200)(h3:M'.length≤16)(h4:∀d∈M',d.xs.length≤200)(h:ary k M k' M'=false):
  Con Tryz.prog 20 false [.ag [.v (.int .i64 k),.sl M.length (ql DyV.cs M)],.ag [.v (.int .i64 k'),.sl M'.length (ql DyV.cs M')]] [] (isA (.tu [.ag [.v (.int .i64 0),.sl 0 []],.v (.bool false)])):=by
 refine Con.frzA ?_
 have ca:=QV k k' M M' h1 h2 h3 h4
 rw[h]at ca
 refine Con.of_w (rs:=[.cell 4 25,.tmp 5]) Tryz.func20 rfl Tryz.ntmps20 rfl ?_
 simp(disch:=omega)only[go_sem]
 refine qm (ca) ?_
 simp(disch:=omega)only[go_sem]
 exact qk
theorem aep(n:Nat)(L L':List ExV)(h:matV n L)(h':matV n L'):Con Tryz.prog 17 false [.ag [.v (.int .i64 (n)),.sl (L).length (ql ExV.cs (L))],.ag [.v (.int .i64 (n)),.sl (L').length (ql ExV.cs (L'))]] [] (isA (.tu [.ag [.v (.int .i64 (gN n (zq n L L'))),.sl (gT (zq n L L')).length (ql ExV.cs (gT (zq n L L')))],.v (.bool ((zq n L L').all ExV.fit))])):=by
 refine Con.frzA ?_
 have ca:=QU n n L L' h h'
 rw[decide_eq_true rfl]at ca
 have co:=JY n L L' h.n4 h.len h'.len h.bd3 h'.bd3
 have hl:(zq n L L').length=n*n:=zn
 have cm:=Qj n (zq n L L') (by have:=ye h.n4;omega) (qQ (ajs h h') (by omega) (by omega))
 generalize zq n L L'=y at*
 refine Con.of_w (rs:=[.cell 4 25,.tmp 5]) Tryz.func17 rfl Tryz.ntmps17 rfl ?_
 simp(disch:=omega)only[go_sem]
 refine qm (ca) ?_
 simp(disch:=omega)only[go_sem]
 refine qs rfl [⟨0,[],[]⟩,⟨2,[0],[]⟩,⟨1,[2],[]⟩,⟨3,[],[]⟩,⟨4,[],[]⟩,⟨5,[],[]⟩,⟨6,[],[]⟩,⟨7,[],[]⟩,⟨8,[],[]⟩,⟨9,[],[]⟩] (by kernel_rfl) ?_
 simp(disch:=omega)only[go_sem]
 refine qa (zv n L (by have:=h.l16;omega)) ?_
 simp(disch:=omega)only[go_sem]
 refine qa (zv n L' (by have:=h'.l16;omega)) ?_
 simp(disch:=omega)only[go_sem]
 refine qa (co) ?_
 simp(disch:=omega)only[go_sem]
 refine qa (cm) ?_
 simp(disch:=omega)only[go_sem]
 exact qk
theorem Y1(k k':Int)(M M':List DyV)(h1:M.length≤16)(h2:∀d∈M,d.xs.length≤200)(h3:M'.length≤16)(h4:∀d∈M',d.xs.length≤200)(h:ary k M k' M'=false):
  Con Tryz.prog 17 false [.ag [.v (.int .i64 k),.sl M.length (ql DyV.cs M)],.ag [.v (.int .i64 k'),.sl M'.length (ql DyV.cs M')]] [] (isA (.tu [.ag [.v (.int .i64 0),.sl 0 []],.v (.bool false)])):=by
 refine Con.frzA ?_
 have ca:=QV k k' M M' h1 h2 h3 h4
 rw[h]at ca
 refine Con.of_w (rs:=[.cell 4 25,.tmp 5]) Tryz.func17 rfl Tryz.ntmps17 rfl ?_
 simp(disch:=omega)only[go_sem]
 refine qm (ca) ?_
 simp(disch:=omega)only[go_sem]
 exact qk
theorem Y0(n:Nat)(L:List ExV)(y:ExV)(h:matV n L)(hy:y.ok=true):Con Tryz.prog 19 false [.ag [.v (.int .i64 (n)),.sl (L).length (ql ExV.cs (L))],.ag [.v (.bool (y).s),.sl (lim (y).m).length (qc (lim (y).m)),.v (.int .i64 (y).e)]] [] (isA (.tu [.ag [.v (.int .i64 (gN n (qC n L y))),.sl (gT (qC n L y)).length (ql ExV.cs (gT (qC n L y)))],.v (.bool ((qC n L y).all ExV.fit))])):=by
 refine Con.frzA ?_
 have k1:=aff y.s (lim y.m) y.e (by have:=(jq hy).2.2.1;omega)
 rw[show dyB y.s (lim y.m) y.e=true from hy]at k1
 have co:=j6 n L y h.n4 h.len h.bd4 ((Yl hy).mono (by omega) (by omega))
 have hl:(qC n L y).length=n*n:=zn
 have cm:=Qj n (qC n L y) (by have:=ye h.n4;omega) (qQ (adP h hy) (by omega) (by omega))
 generalize qC n L y=z at*
 refine Con.of_w (rs:=[.cell 4 25,.tmp 5]) Tryz.func19 rfl Tryz.ntmps19 rfl ?_
 simp(disch:=omega)only[go_sem]
 refine qm (yE n L h) ?_
 simp(disch:=omega)only[go_sem]
 refine qm (k1) ?_
 simp(disch:=omega)only[go_sem]
 refine qs rfl [⟨0,[],[]⟩,⟨2,[0],[]⟩,⟨1,[2],[]⟩,⟨3,[],[]⟩,⟨4,[],[]⟩,⟨5,[],[]⟩,⟨6,[],[]⟩,⟨7,[],[]⟩,⟨8,[],[]⟩,⟨9,[],[]⟩] (by kernel_rfl) ?_
 simp(disch:=omega)only[go_sem]
 refine qa (zv n L (by have:=h.l16;omega)) ?_
 simp(disch:=omega)only[go_sem]
 refine qa (yV y.s y.m y.e) ?_
 simp(disch:=omega)only[go_sem]
 refine qa (co) ?_
 simp(disch:=omega)only[go_sem]
 refine qa (cm) ?_
 simp(disch:=omega)only[go_sem]
 exact qk
end Go.Ab
namespace Go.Ab
/-! ### Sums and greatest ones of whole numbers-/
def qA(f:Nat→Int):Nat→Int
 |0=>0
 |k+1=>qA f k+f k
def aKt(f:Nat→Int):Nat→Int
 |0=>0
 |k+1=>if aKt f k<f k then f k else aKt f k
theorem qB{f g:Nat→Int}:∀{k:Nat},(∀i,i<k→f i=g i)→qA f k=qA g k
 |0,_=>rfl
 |k+1,h=>by rw[qA,qA,qB fun i hi=>h i (by omega),h k (by omega)]
theorem Zu(f g:Nat→Int):∀k:Nat,qA (fun i=>f i+g i) k=qA f k+qA g k
 |0=>rfl
 |k+1=>by rw[qA,qA,qA,Zu f g k];omega
theorem Qv(f:Nat→Int)(c:Int):∀k:Nat,qA (fun i=>f i*c) k=qA f k*c
 |0=>by simp[qA]
 |k+1=>by rw[qA,qA,Qv f c k,Int.add_mul]
theorem yw(f:Nat→Int)(c:Int):∀k:Nat,qA (fun i=>c*f i) k=c*qA f k
 |0=>by simp[qA]
 |k+1=>by rw[qA,qA,yw f c k,Int.mul_add]
theorem Qu:∀k:Nat,qA (fun _=>0) k=0
 |0=>rfl
 |k+1=>by rw[qA,Qu k];rfl
theorem Jx(g:Nat→Nat→Int)(m:Nat):∀k:Nat,qA (fun i=>qA (fun t=>g i t) m) k=qA (fun t=>qA (fun i=>g i t) k) m
 |0=>(Qu m).symm
 |k+1=>by
  rw[qA,Jx g m k,←Zu]
  exact qB fun t _=>rfl
theorem jm{f:Nat→Int}{j:Nat}:∀{k:Nat},j<k→(∀i,i<k→i≠j→f i=0)→qA f k=f j
 |0,h,_=>by omega
 |k+1,h,h2=>by
  rw[qA]
  by_cases hj:j=k
  ·subst hj
   have:qA f j=qA (fun _=>0) j:=qB fun i hi=>h2 i (by omega) (by omega)
   rw[this,Qu];omega
  ·rw[jm (by omega) (fun i hi=>h2 i (by omega)),h2 k (by omega) (by omega)];omega
def nrm(A:Nat→Nat→Int)(n:Nat):Int:=aKt (fun j=>qA (fun i=>((A i j).natAbs:Int)) n) n
end Go.Ab
namespace Go.Ab
open Go Go.Proofs
/-! ### What matrices tell-/
def mv(K:Nat)(L:List ExV)(n i j:Nat):Int:=(L.getD (i*n+j) ex0).val K
def eK(K:Nat)(L:List ExV):Prop:=∀x∈L, -(K:Int)≤x.e
theorem yq{K:Nat}{L:List ExV}{i:Nat}(h:eK K L)(hi:i<L.length): -(K:Int)≤(L.getD i ex0).e:=by
 rw[List.getD_eq_getElem?_getD,List.getElem?_eq_getElem hi]
 exact h _ (List.getElem_mem hi)
theorem matV.eK{n:Nat}{L:List ExV}(h:matV n L){K:Nat}(hK:3000≤K):eK K L:=fun x hx=>by have:=(jq (h.ok x hx)).1;omega
theorem YI(K:Nat):ex0.val K=0:=QF
theorem aDb{K n:Nat}{L:List ExV}{j:Nat}(hK:eK K L)(hl:L.length=n*n)(hj:j<n):∀k,k≤n→(afg n L j k).val K=qA (fun i=>((mv K L n i j).natAbs:Int)) k∧ -(K:Int)≤(afg n L j k).e
 |0,_=>⟨YI K,by show-(K:Int)≤0;omega⟩
 |k+1,hk=>by
  obtain⟨h1,h2⟩:=aDb hK hl hj k (by omega)
  have h3:=yq hK (i:=k*n+j) (by rw[hl];exact qZ (by omega) hj)
  rw[aaF]
  refine⟨?_,aoV h2 h3⟩
  rw[Zd (y:=ExV.abs _) h2 h3,h1,aMF];rfl
theorem aEQ{n i j:Nat}(hj:j<n):(i*n+j)/n=i∧(i*n+j) % n=j:=by
 constructor
 ·rw[Nat.mul_comm,Nat.mul_add_div (by omega),Nat.div_eq_of_lt hj,Nat.add_zero]
 ·rw[Nat.mul_comm,Nat.mul_add_mod,Nat.mod_eq_of_lt hj]
theorem apD{n:Nat}{g:Nat→Nat→ExV}{i j:Nat}(hi:i<n)(hj:j<n):(gl n g (n*n)).getD (i*n+j) ex0=g i j:=by
 rw[aPf (qZ hi hj),(aEQ hj).1,(aEQ hj).2]
theorem apf{L:List ExV}{k:Nat}(hk:k<L.length):(L.map ExV.can).getD k ex0=(L.getD k ex0).can:=by
 rw[List.getD_eq_getElem?_getD,List.getElem?_eq_getElem (by rw[List.length_map];exact hk),List.getD_eq_getElem?_getD,List.getElem?_eq_getElem hk]
 simp
theorem apa{K n:Nat}{g:Nat→Nat→ExV}{i j:Nat}(hi:i<n)(hj:j<n)(hK: -(K:Int)≤(g i j).e):mv K ((gl n g (n*n)).map ExV.can) n i j=(g i j).val K:=by
 unfold mv
 rw[apf (by rw[zn];exact qZ hi hj),apD hi hj,aqT hK]
theorem aKp{K n:Nat}{L L':List ExV}{i j:Nat}(h:eK K L)(h':eK K L')(hl:L.length=n*n)(hl':L'.length=n*n)(hi:i<n)(hj:j<n):mv K ((jh n L L').map ExV.can) n i j=mv K L n i j+mv K L' n i j:=by
 have a:=yq h (i:=i*n+j) (by rw[hl];exact qZ hi hj)
 have b:=yq h' (i:=i*n+j) (by rw[hl'];exact qZ hi hj)
 unfold jh
 rw[apa hi hj (aoV a b),Zd a b];rfl
theorem YK{K K' n:Nat}{L L':List ExV}{i j:Nat}(h:eK K L)(h':eK K' L')(hl:L.length=n*n)(hl':L'.length=n*n)(hi:i<n)(hj:j<n):∀k,k≤n→(Xc n L L' i j k).val (K+K')=qA (fun t=>mv K L n i t*mv K' L' n t j) k∧ -((K+K':Nat):Int)≤(Xc n L L' i j k).e
 |0,_=>⟨YI _,by show-((K+K':Nat):Int)≤0;omega⟩
 |k+1,hk=>by
  obtain⟨h1,h2⟩:=YK h h' hl hl' hi hj k (by omega)
  have a:=yq h (i:=i*n+k) (by rw[hl];exact qZ hi (by omega))
  have b:=yq h' (i:=k*n+j) (by rw[hl'];exact qZ (by omega) hj)
  rw[aai]
  have c: -((K+K':Nat):Int)≤((L.getD (i*n+k) ex0).times (L'.getD (k*n+j) ex0)).e:=by show _≤(L.getD (i*n+k) ex0).e+(L'.getD (k*n+j) ex0).e;omega
  refine⟨?_,aoV h2 c⟩
  rw[Zd h2 c,h1,Zn a b];rfl
theorem aBL{K K' n:Nat}{L L':List ExV}{i j:Nat}(h:eK K L)(h':eK K' L')(hl:L.length=n*n)(hl':L'.length=n*n)(hi:i<n)(hj:j<n):mv (K+K') ((zq n L L').map ExV.can) n i j=qA (fun t=>mv K L n i t*mv K' L' n t j) n:=by
 obtain⟨h1,h2⟩:=YK h h' hl hl' hi hj n (Nat.le_refl n)
 unfold zq
 rw[apa hi hj h2,h1]
theorem ao9{K K' n:Nat}{L:List ExV}{y:ExV}{i j:Nat}(h:eK K L)(hy: -(K':Int)≤y.e)(hl:L.length=n*n)(hi:i<n)(hj:j<n):mv (K+K') ((qC n L y).map ExV.can) n i j=mv K L n i j*y.val K':=by
 have a:=yq h (i:=i*n+j) (by rw[hl];exact qZ hi hj)
 unfold qC
 rw[apa hi hj (by show _≤(L.getD (i*n+j) ex0).e+y.e;omega),Zn a hy];rfl
end Go.Ab
namespace Go.Ab
open Go Go.Proofs
def beP(l:List UInt8)(i h:Int):Ob:=.own 0 [.sl l.length (qj l),.v (.int .i64 i),.v (.int .i64 h)]
def YM(l:List UInt8)(Q:AV→Prop):AV→List Ob→List Ob→Prop:=fun r hs bs=>hs=[]∧Q r∧∃i h:Int,(0≤i∧i≤l.length)∧bs=[.own 0 [.sl l.length (qj l),.v (.int .i64 i),.v (.int .i64 h)]]
section
variable {P:Program}{N f c:Nat}{aa0 args:List AV}{hp:Nat→Ob}{K:KV}{Q:AV→Prop}{e:Nat→AV}{l:List UInt8}{i h:Int}
theorem qu{n:Nat}(hc:Con P f false (.pt 10000000 0::args) [.own 0 [.sl l.length (qj l),.v (.int .i64 i),.v (.int .i64 h)]] (YM l Q))
  (hk:∀(r:AV) (i' h':Int),(0≤i'∧i'≤l.length)→Q r→K (r.ren (rho c [n])) (upd hp n (.own 0 [.sl l.length (qj l),.v (.int .i64 i'),.v (.int .i64 h')])))
  (ha:aa0.map (snp (hpx false [n] hp) (idx [n]) 6)=args:=by simp(disch:=omega)only[go_sem]) (hn:hp n=.own 0 [.sl l.length (qj l),.v (.int .i64 i),.v (.int .i64 h)]:=by simp(disch:=omega)only[go_sem]):@Jr P f (.pt n 0::aa0) hp c ⟨K⟩:=by
 refine Qm false [n] hc (by rw[List.map_cons,ha];simp[snp,idx]) (by rw[ZM,hn];rfl) rfl (qS hn (by simp[AllL,AV.All])) (by intro m hm;rw[List.mem_singleton.1 hm];exact⟨_,List.mem_cons_self ..,rfl⟩) ?_
 rintro r hs bs ⟨rfl,hq,i',h',hi',rfl⟩-
 exact⟨⟨by simp,trivial,fun h=>by cases h⟩,hk r i' h' hi' hq⟩
theorem aES{ks:List Nat}:∀{l:List AV},AllL (yd []) l→leL [] ks l l
 | [],_=>trivial
 |a::r,h=>⟨⟨aoM a,h.1.mono fun _ h=>h.elim⟩,aES h.2⟩
theorem qU{vs:List AV}(i h:Int)(hq:Q (zj vs))(hi:0≤i∧i≤l.length:=by omega)(hh:hp 10000000=.own 0 [.sl l.length (qj l),.v (.int .i64 i),.v (.int .i64 h)]:=by simp(disch:=omega)only[go_sem])
  (hl:AllL (yd []) vs:=by simp(disch:=omega)only[go_sem]):@aEZ N false 1 ⟨YM l Q⟩ ⟨e⟩ vs hp:=
 qg [] [] [.own 0 [.sl l.length (qj l),.v (.int .i64 i),.v (.int .i64 h)]] vs rfl (aES hl) ⟨⟨hh.symm,by simp[Ob.men,AllL,AV.All],trivial⟩,trivial⟩ ⟨rfl,by simp,by simp⟩ (fun h=>by cases h) ⟨rfl,hq,i,h,hi,rfl⟩
end
def bbL(l:List UInt8)(xs:List Int)(Q:AV→Prop):AV→List Ob→List Ob→Prop:=fun r hs bs=>hs=[]∧Q r∧∃i h:Int,(0≤i∧i≤l.length)∧bs=[.own 0 [.sl l.length (qj l),.v (.int .i64 i),.v (.int .i64 h)],.own 1 (qc xs)]
section
variable {P:Program}{N f c:Nat}{aa0 args:List AV}{hp:Nat→Ob}{K:KV}{Q:AV→Prop}{e:Nat→AV}{l:List UInt8}{i h:Int}
theorem jP{n m k:Nat}{xs:List Int}(hc:Con P f false [.pt 10000000 0,.rf 10000001 0 xs.length] [.own 0 [.sl l.length (qj l),.v (.int .i64 i),.v (.int .i64 h)],.own 1 (qc xs)] (bbL l xs Q))
  (hk:∀(r:AV) (i' h':Int),(0≤i'∧i'≤l.length)→Q r→K (r.ren (rho c [n,m])) (upd (upd hp n (.own 0 [.sl l.length (qj l),.v (.int .i64 i'),.v (.int .i64 h')])) m (.own 1 (qc xs))))
  (hx:xs.length=k:=by rfl)
  (hn:hp n=.own 0 [.sl l.length (qj l),.v (.int .i64 i),.v (.int .i64 h)]:=by simp(disch:=omega)only[go_sem]) (hm:hp m=.own 1 (qc xs):=by simp(disch:=omega)only[go_sem];rfl)
  (hd:QR [n,m]=true:=by rfl):@Jr P f [.pt n 0,.rf m 0 k] hp c ⟨K⟩:=by
 have hnm:¬m=n:=by
  have:=(jI hd)
  simp only[List.nodup_cons,List.mem_singleton]at this
  exact fun h=>this.1 h.symm
 subst hx
 refine Qm false [n,m] hc (by simp[snp,idx,hnm]) (by rw[ZM,ZM,hn,hm];simp only[Ob.ren,ZD,ZM];rfl) hd (aBS hn (by simp[AllL,AV.All]) hm Zi) (by intro q hq;simp only[List.mem_cons,List.not_mem_nil,or_false]at hq;rcases hq with rfl|rfl<;>simp[AV.top]) ?_
 rintro r hs bs ⟨rfl,hq,i',h',hi',rfl⟩-
 refine⟨⟨by simp,trivial,fun h=>by cases h⟩,?_⟩
 have:=hk r i' h' hi' hq
 simp only[List.map_cons,List.map_nil,Ob.ren,ZD]
 exact this
end
section
variable (l:List UInt8)(hl:l.length≤9223372036854775807)(i h:Int)(hi:0≤i∧i≤l.length)
include hl hi
theorem jO:Con Tryz.prog 163 false [.pt 10000000 0] [.own 0 [.sl l.length (qj l),.v (.int .i64 i),.v (.int .i64 h)]] (YM l fun r=>∃k:Int,(0≤k∧k≤255)∧r=.v (.int .i64 k)):=by
 refine Con.of_aw Tryz.func163 rfl Tryz.ntmps163 (by simp) (by simp) (by simp) (W.sound ?_)
 show @W Tryz.prog 58 ⟨_⟩ ⟨fun x σ=>@za _ _ _ ⟨_⟩ _ ⟨_⟩ x σ⟩ _ _
 simp(disch:=omega)only[go_sem]
 generalize IntKind.i64.wrap (IntKind.i64.wrap (h*6364136223846793005)+1442695040888963407)=h1
 refine qs rfl [⟨0,[],[]⟩,⟨1,[],[]⟩,⟨2,[],[]⟩,⟨3,[],[]⟩,⟨4,[],[]⟩,⟨5,[3],[]⟩,⟨6,[3],[]⟩,⟨7,[3],[]⟩,⟨8,[3],[]⟩,⟨9,[3],[]⟩,⟨10,[],[]⟩,⟨11,[],[]⟩,⟨12,[],[]⟩] (by kernel_rfl) ?_
 simp(disch:=omega)only[go_sem]
 generalize bbz (h1.fdiv (2^min 33 64)) (h1.fdiv (2^min 45 64))=y
 have hy:0≤y % 256∧y % 256<256:=by omega
 generalize y % 256=x at*
 refine qs rfl [⟨0,[],[]⟩,⟨1,[],[]⟩,⟨2,[],[]⟩,⟨3,[],[]⟩,⟨4,[3],[]⟩,⟨5,[3],[]⟩,⟨6,[3],[]⟩,⟨7,[3],[]⟩,⟨8,[3],[]⟩,⟨9,[],[]⟩] (by kernel_rfl) ?_
 simp(disch:=omega)only[go_sem]
 refine qe (fun c1=>?_) (fun c1=>?_)
 ·simp(disch:=omega)only[go_sem,c1]
  refine qs rfl [⟨0,[],[]⟩,⟨1,[],[]⟩,⟨2,[],[]⟩,⟨3,[],[]⟩,⟨4,[],[]⟩,⟨5,[4],[]⟩,⟨6,[4],[]⟩,⟨7,[4],[]⟩,⟨8,[4],[]⟩,⟨9,[],[]⟩,⟨10,[],[]⟩,⟨11,[],[]⟩,⟨12,[],[]⟩,⟨13,[],[]⟩,⟨14,[],[]⟩] (by kernel_rfl) ?_
  simp(disch:=omega)only[go_sem]
  refine⟨by omega,by omega,?_⟩
  generalize IntKind.i64.wrap (x+IntKind.i64.wrap ((l.getD i.toNat 0).toNat:Int))=y2
  have hy2:0≤y2 % 256∧y2 % 256<256:=by omega
  refine qU (i+1) (h1) ⟨_,by omega,rfl⟩
 ·simp(disch:=omega)only[go_sem,c1]
  refine qU (i) (h1) ⟨_,by omega,rfl⟩
theorem qJ(n:Int)(hn:n≤2^62):Con Tryz.prog 79 false [.pt 10000000 0,.v (.int .i64 n)] [.own 0 [.sl l.length (qj l),.v (.int .i64 i),.v (.int .i64 h)]] (YM l fun r=>∃k:Int,(0≤k∧(0<n→k<n))∧r=.v (.int .i64 k)):=by
 refine Con.of_aw Tryz.func79 rfl Tryz.ntmps79 (by simp) (by simp) (by simp) (W.sound ?_)
 show @W Tryz.prog 37 ⟨_⟩ ⟨fun x σ=>@za _ _ _ ⟨_⟩ _ ⟨_⟩ x σ⟩ _ _
 simp(disch:=omega)only[go_sem]
 refine qe (fun c1=>?_) (fun c1=>?_)
 ·simp(disch:=omega)only[go_sem,c1]
  refine qU (i) (h) ⟨_,⟨by omega,fun h=>by omega⟩,rfl⟩
 ·simp(disch:=omega)only[go_sem,c1]
  refine qe (fun c2=>?_) (fun c2=>?_)
  ·simp(disch:=omega)only[go_sem,c2]
   refine qu (jO l hl i h hi) ?_
   rintro r i1 h1 hi1 ⟨k1,hk1,rfl⟩
   simp(disch:=omega)only[go_sem]
   refine⟨by omega,?_⟩
   have hm:=Int.emod_nonneg k1 (show n≠0 by omega)
   have hm2:=Int.emod_lt_of_pos k1 (show 0<n by omega)
   refine qU (i1) (h1) ⟨_,⟨hm,fun _=>hm2⟩,rfl⟩
  ·simp(disch:=omega)only[go_sem,c2]
   refine qu (jO l hl i h hi) ?_
   rintro r i1 h1 hi1 ⟨k1,hk1,rfl⟩
   simp(disch:=omega)only[go_sem]
   refine qu (jO l hl i1 h1 hi1) ?_
   rintro r i2 h2 hi2 ⟨k2,hk2,rfl⟩
   simp(disch:=omega)only[go_sem]
   refine qu (jO l hl i2 h2 hi2) ?_
   rintro r i3 h3 hi3 ⟨k3,hk3,rfl⟩
   simp(disch:=omega)only[go_sem]
   refine qu (jO l hl i3 h3 hi3) ?_
   rintro r i4 h4 hi4 ⟨k4,hk4,rfl⟩
   simp(disch:=omega)only[go_sem]
   refine⟨by omega,?_⟩
   have hm:=Int.emod_nonneg (k1*16777216+k2*65536+k3*256+k4) (show n≠0 by omega)
   have hm2:=Int.emod_lt_of_pos (k1*16777216+k2*65536+k3*256+k4) (show 0<n by omega)
   refine qU (i4) (h4) ⟨_,⟨hm,fun _=>hm2⟩,rfl⟩
theorem qW(n:Int)(hn:n≤2^62):Con Tryz.prog 111 false [.pt 10000000 0,.v (.int .i64 n)] [.own 0 [.sl l.length (qj l),.v (.int .i64 i),.v (.int .i64 h)]] (YM l fun r=>∃b:Bool,r=.v (.bool b)):=by
 refine Con.of_aw Tryz.func111 rfl Tryz.ntmps111 (by simp) (by simp) (by simp) (W.sound ?_)
 show @W Tryz.prog 9 ⟨_⟩ ⟨fun x σ=>@za _ _ _ ⟨_⟩ _ ⟨_⟩ x σ⟩ _ _
 simp(disch:=omega)only[go_sem]
 refine qu (qJ l hl i h hi n hn) ?_
 rintro r i1 h1 hi1 ⟨k1,hk1,rfl⟩
 simp(disch:=omega)only[go_sem]
 refine qU (i1) (h1) ⟨_,rfl⟩
theorem zz(xs:List Int)(h0:0<xs.length)(h1:xs.length≤2^40):Con Tryz.prog 145 false [.pt 10000000 0,.rf 10000001 0 xs.length] [.own 0 [.sl l.length (qj l),.v (.int .i64 i),.v (.int .i64 h)],.own 1 (qc xs)] (bbL l xs fun r=>∃x∈xs,r=.v (.int .i64 x)):=by
 refine Con.of_aw Tryz.func145 rfl Tryz.ntmps145 (by simp) (by simp) (by simp) (W.sound ?_)
 show @W Tryz.prog 12 ⟨_⟩ ⟨fun x σ=>@za _ _ _ ⟨_⟩ _ ⟨_⟩ x σ⟩ _ _
 simp(disch:=omega)only[go_sem]
 refine qu (qJ l hl i h hi xs.length (by omega)) ?_
 rintro r i1 h1 hi1 ⟨k1,hk1,rfl⟩
 simp(disch:=omega)only[go_sem]
 obtain⟨n1,rfl⟩:=Int.eq_ofNat_of_zero_le hk1.1
 have hlt:n1<xs.length:=by have:=hk1.2 (by omega);omega
 simp(disch:=omega)only[go_sem]
 refine⟨by omega,by omega,?_⟩
 have hm:xs.getD n1 0∈xs:=by rw[List.getD_eq_getElem?_getD,List.getElem?_eq_getElem hlt];exact List.getElem_mem _
 refine qg [] [] [.own 0 [.sl l.length (qj l),.v (.int .i64 i1),.v (.int .i64 h1)],.own 1 (qc xs)] [.v (.int .i64 (xs.getD n1 0))] rfl (by simp(disch:=omega)only[go_sem]) (by simp(disch:=omega)only[go_sem]) (by simp) (by simp) ⟨rfl,⟨_,hm,rfl⟩,_,_,by omega,rfl⟩
end
end Go.Ab
namespace Go.Ab
open Go Go.Proofs
section
variable (l:List UInt8)(hl:l.length≤9223372036854775807)(i h:Int)(hi:0≤i∧i≤l.length)
include hl hi
theorem YU:Con Tryz.prog 293 false [.pt 10000000 0] [.own 0 [.sl l.length (qj l),.v (.int .i64 i),.v (.int .i64 h)]] (YM l fun r=>∃k:Int,(0≤k∧k≤100)∧r=.v (.int .i64 k)):=by
 refine Con.of_aw Tryz.func293 rfl Tryz.ntmps293 (by simp) (by simp) (by simp) (W.sound ?_)
 show @W Tryz.prog 10 ⟨_⟩ ⟨fun x σ=>@za _ _ _ ⟨_⟩ _ ⟨_⟩ x σ⟩ _ _
 simp(disch:=omega)only[go_sem]
 refine qu (qW l hl i h hi 12 (by omega)) ?_
 rintro r i1 h1 hi1 ⟨b,rfl⟩
 simp(disch:=omega)only[go_sem]
 cases b
 ·simp(disch:=omega)only[go_sem]
  refine qu (qJ l hl i1 h1 hi1 6 (by omega)) ?_
  rintro r i2 h2 hi2 ⟨k,hk,rfl⟩
  simp(disch:=omega)only[go_sem]
  have:=hk.2 (by omega)
  refine qU (i2) (h2) ⟨_,by omega,rfl⟩
 ·simp(disch:=omega)only[go_sem]
  refine jP (zz l hl i1 h1 hi1 [100,99,50,20] (by simp) (by simp)) ?_
  rintro r i2 h2 hi2 ⟨x,hx,rfl⟩
  have hx_b:0≤x∧x≤100:=by
   simp only[List.mem_cons,List.not_mem_nil,or_false]at hx
   omega
  clear hx
  simp(disch:=omega)only[go_sem]
  refine qU (i2) (h2) ⟨_,by omega,rfl⟩
theorem JW:Con Tryz.prog 282 false [.pt 10000000 0] [.own 0 [.sl l.length (qj l),.v (.int .i64 i),.v (.int .i64 h)]] (fun r hs bs=>(∃m:Nat,bl m≤1600∧aKo m r hs [])∧∃i h:Int,(0≤i∧i≤l.length)∧bs=[.own 0 [.sl l.length (qj l),.v (.int .i64 i),.v (.int .i64 h)]]):=by
 refine Con.of_aw Tryz.func282 rfl Tryz.ntmps282 (by simp) (by simp) (by simp) (W.sound ?_)
 show @W Tryz.prog 38 ⟨_⟩ ⟨fun x σ=>@za _ _ _ ⟨_⟩ _ ⟨_⟩ x σ⟩ _ _
 simp(disch:=omega)only[go_sem]
 refine qu (YU l hl i h hi) ?_
 rintro r i1 h1 hi1 ⟨k,hk,rfl⟩
 simp(disch:=omega)only[go_sem]
 refine qi (fun x:Nat×List Int×Int×Int=>[(0,.pt 10000000 0),(2,.pt 2 0),(3,.rf 1 0 x.2.1.length),(4,.v (.int .i64 k)),(5,.v (.int .i64 x.1))])
  (fun x=>[(1,.own 1 (qc x.2.1)),(2,.own 0 [.v (.slice none 0 0)]),(10000000,.own 0 [.sl l.length (qj l),.v (.int .i64 x.2.2.1),.v (.int .i64 x.2.2.2)])])
  (fun x=>x.1≤k.toNat∧x.2.1.length=x.1∧gd x.2.1∧(0≤x.2.2.1∧x.2.2.1≤l.length)) (fun x=>k.toNat-x.1) (0,[],i1,h1) ⟨by simp,rfl,by simp[gd],hi1⟩
  ((Le.ghost 3 1 1 (by simp(disch:=omega)only[go_sem]) (by simp(disch:=omega)only[go_sem])).trans (Le.lst [(2,40000000)] _ _ rfl (by simp(disch:=omega)only[go_sem]) (by simp(disch:=omega)only[go_sem]))) ?_
 rintro⟨j,xs,i2,h2⟩ ⟨hj,hxl,hg,hi2⟩
 dsimp only at hj hxl hg hi2 ⊢
 simp(disch:=omega)only[go_sem]
 refine qe (fun c1=>?_) (fun c1=>?_)
 ·simp(disch:=omega)only[go_sem,c1]
  refine qu (qJ l hl i2 h2 hi2 4 (by omega)) ?_
  rintro r i3 h3 hi3 ⟨q,hq,rfl⟩
  simp(disch:=omega)only[go_sem]
  by_cases q0:q=0
  ·simp(disch:=omega)only[go_sem,q0]
   exact⟨by omega,qb (j+1,xs++[65535],i3,h3) [(1,260000000)] ⟨by dsimp only;omega,by simp[hxl],qL.2 ⟨hg,by simp[gd]⟩,hi3⟩ (by show k.toNat-(j+1)<k.toNat-j;omega) rfl (by simp(disch:=omega)only[go_sem,List.length_append];try omega) (by simp(disch:=omega)only[go_sem])⟩
  by_cases q1:q=1
  ·simp(disch:=omega)only[go_sem,q0,q1]
   exact⟨by omega,qb (j+1,xs++[0],i3,h3) [(1,310000000)] ⟨by dsimp only;omega,by simp[hxl],qL.2 ⟨hg,by simp[gd]⟩,hi3⟩ (by show k.toNat-(j+1)<k.toNat-j;omega) rfl (by simp(disch:=omega)only[go_sem,List.length_append];try omega) (by simp(disch:=omega)only[go_sem])⟩
  simp(disch:=omega)only[go_sem,q0,q1]
  refine qu (qJ l hl i3 h3 hi3 65536 (by omega)) ?_
  rintro r i4 h4 hi4 ⟨d,hd,rfl⟩
  simp(disch:=omega)only[go_sem]
  have hd2:=hd.2 (by omega)
  exact⟨by omega,qb (j+1,xs++[d],i4,h4) [(1,210000000)] ⟨by dsimp only;omega,by simp[hxl],qL.2 ⟨hg,QA.2 ⟨by omega,by simp[gd]⟩⟩,hi4⟩ (by show k.toNat-(j+1)<k.toNat-j;omega) rfl (by simp(disch:=omega)only[go_sem,List.length_append];try omega) (by simp(disch:=omega)only[go_sem])⟩
 ·simp(disch:=omega)only[go_sem,c1]
  refine qu (qW l hl i2 h2 hi2 4 (by omega)) ?_
  rintro r i3 h3 hi3 ⟨b,rfl⟩
  simp(disch:=omega)only[go_sem]
  cases b
  ·simp(disch:=omega)only[go_sem]
   have hv:vl xs=((vl xs).toNat:Int):=(Int.toNat_of_nonneg (qR hg)).symm
   have hb:bl (vl xs).toNat≤1600:=by
    refine zE.2 ?_
    have h1:=QZ hg
    have h2:(65536:Int)^xs.length≤65536^100:=by
     rw[show(65536:Int)=((65536:Nat):Int) from rfl,←Int.natCast_pow,←Int.natCast_pow]
     exact Int.ofNat_le.2 (Nat.pow_le_pow_right (by omega) (by omega))
    have h3:(65536:Int)^100=((2^1600:Nat):Int):=by decide+kernel
    omega
   generalize (vl xs).toNat=m at*
   refine qD (jN true xs m (by omega) hg hv) (by simp(disch:=omega)only[go_sem]) ?_
   rintro r hs (⟨h0,rfl,rfl⟩|⟨zs,rfl,rfl⟩)
   ·refine⟨⟨by simp,by simp(disch:=omega)only[go_sem]⟩,?_⟩
    simp(disch:=omega)only[go_sem]
    refine qg [] [] [.own 0 [.sl l.length (qj l),.v (.int .i64 i3),.v (.int .i64 h3)]] [.ag [.v (.slice none 0 0)]] rfl (by simp(disch:=omega)only[go_sem]) (by simp(disch:=omega)only[go_sem]) (by simp) (by simp) ⟨⟨m,hb,.inl ⟨h0,rfl,rfl⟩⟩,_,_,hi3,rfl⟩
   ·refine⟨⟨by simp,by simp(disch:=omega)only[go_sem]⟩,?_⟩
    simp(disch:=omega)only[go_sem]
    refine qg [(0,390000000)] [.own 1 (qc (lim m++zs))] [.own 0 [.sl l.length (qj l),.v (.int .i64 i3),.v (.int .i64 h3)]] [.ag [.rf 0 0 (lim m).length]] rfl (by simp(disch:=omega)only[go_sem]) (by simp(disch:=omega)only[go_sem]) (by simp) (by simp) ⟨⟨m,hb,.inr ⟨zs,rfl,rfl⟩⟩,_,_,hi3,rfl⟩
  ·simp(disch:=omega)only[go_sem]
   refine jP (zz l hl i3 h3 hi3 [0,1,2,9,10,65535,65536,1099511627776,4611686018427387903,4611686018427387904] (by simp) (by simp)) ?_
   rintro r i4 h4 hi4 ⟨x,hx,rfl⟩
   have hx_b:0≤x∧x≤4611686018427387904:=by
    simp only[List.mem_cons,List.not_mem_nil,or_false]at hx
    omega
   clear hx
   simp(disch:=omega)only[go_sem]
   obtain⟨n,rfl⟩:=Int.eq_ofNat_of_zero_le hx_b.1
   have hb:bl n≤1600:=Nat.le_trans (show bl n≤63 from zE.2 (by omega)) (by omega)
   refine qD (YT true n (by omega)) (by simp(disch:=omega)only[go_sem]) ?_
   rintro r hs (⟨h0,rfl,rfl⟩|⟨zs,rfl,rfl⟩)
   ·refine⟨⟨by simp,by simp(disch:=omega)only[go_sem]⟩,?_⟩
    simp(disch:=omega)only[go_sem]
    refine qg [] [] [.own 0 [.sl l.length (qj l),.v (.int .i64 i4),.v (.int .i64 h4)]] [.ag [.v (.slice none 0 0)]] rfl (by simp(disch:=omega)only[go_sem]) (by simp(disch:=omega)only[go_sem]) (by simp) (by simp) ⟨⟨n,hb,.inl ⟨h0,rfl,rfl⟩⟩,_,_,hi4,rfl⟩
   ·refine⟨⟨by simp,by simp(disch:=omega)only[go_sem]⟩,?_⟩
    simp(disch:=omega)only[go_sem]
    refine qg [(0,370000000)] [.own 1 (qc (lim n++zs))] [.own 0 [.sl l.length (qj l),.v (.int .i64 i4),.v (.int .i64 h4)]] [.ag [.rf 0 0 (lim n).length]] rfl (by simp(disch:=omega)only[go_sem]) (by simp(disch:=omega)only[go_sem]) (by simp) (by simp) ⟨⟨n,hb,.inr ⟨zs,rfl,rfl⟩⟩,_,_,hi4,rfl⟩
end
end Go.Ab
namespace Go.Ab
open Go Go.Proofs
end Go.Ab
namespace Go.Ab
open Go Go.Proofs
end Go.Ab
namespace Go.Ab
open Go Go.Proofs
def awV(s:Bool)(m e:Int):FlV:=if m<9007199254740991 then⟨1,s,m+1,e⟩else if e<971 then⟨1,s,4503599627370496,e+1⟩else⟨2,s,0,0⟩
def toV(k:Int)(s:Bool)(m e:Int):FlV:=if k=2 then⟨1,s,9007199254740991,971⟩else if 4503599627370496<m∨(e= -1074∧1<m)then⟨k,s,m-1,e⟩else if-1074<e then⟨k,s,9007199254740991,e-1⟩else⟨0,s,0,0⟩
def nxV(k:Int)(s:Bool)(m e:Int):FlV:=if k=3∨(k=2∧s=false)then⟨k,s,m,e⟩else if k=0 then⟨1,false,1, -1074⟩else if s=true then toV k s m e else awV s m e
def ulE(k e:Int):Int:=if k=0 then-1074 else e
end Go.Ab
namespace Go.Ab
structure Adj(k:Int)(s:Bool)(m e:Int)(n:FlV)(t:Bool)(a:Nat)(E:Int):Prop where
 ha:a<2^53
 hf:2^52≤a∨E= -1074
 hE: -1074≤E∧E≤971
 ho:¬(a+1=2^53∧E=971)
 hu:E≤ulE k e
 lo:dv 1074 (xS k s) m.toNat e=dv 1074 t (if t=true then a+1 else a) E
 hi:dv 1074 (xS n.k n.s) n.m.toNat n.e=dv 1074 t (if t=true then a else a+1) E
theorem beD:ngS 1 false=true:=rfl
theorem beB:ngS 1 true=false:=rfl
theorem beC:ngS 2 false=true:=rfl
end Go.Ab
namespace Go.Ab
open Go Go.Proofs
theorem ap5{n:Nat}{e:Int}(hn:bl n≤1500)(he: -3000≤e∧e≤1400):j0 n e=true:=by
 have q4:=j7 (aJZ n)
 have l1:=qG (m:=oM n) (B:=1500) (by omega)
 have q5: -3000≤oE n e∧oE n e≤3000:=by
  unfold oE
  by_cases h:n=0
  ·rw[if_pos h];omega
  ·rw[if_neg h];have:=yv h;omega
 unfold j0 jJ
 simp only[Bool.and_eq_true,decide_eq_true_eq]
 omega
def bdI(ok:Bool):AV→List Ob→List Ob→Prop:=fun r hs bs=>hs=[]∧bs=[]∧∃(S:Bool) (M:Nat) (E:Int) (b:Bool),dyB S (lim M) E=true∧(ok=false→b=false)∧r=.tu [.ag [.v (.bool (S)),.sl (lim (M)).length (qc (lim (M))),.v (.int .i64 (E))],.v (.bool b)]
end Go.Ab
namespace Go.Ab
def ivM(s:Bool)(m:Nat)(e mode:Int):Nat:=roM s m e 0 mode*2^(roE m e 0).toNat
end Go.Ab
namespace Go.Ab
open Go Go.Proofs
end Go.Ab
namespace Go.Ab
open Go Go.Proofs
end Go.Ab
namespace Go.Ab
open Go Go.Proofs
end Go.Ab
namespace Go.Ab
open Go Go.Proofs
def beJ(k m:Int):Nat:=if k=1 then oM m.toNat else 0
def beK(k m e:Int):Int:=if k=1 then oE m.toNat e else 0
def beI(k:Int)(s:Bool)(m:Int):Bool:=if k=1 then oS (s&&decide (m.toNat≠0)) m.toNat else false
end Go.Ab
namespace Go.Ab
open Go Go.Proofs
def bdH:AV→List Ob→List Ob→Prop:=fun r hs bs=>hs=[]∧bs=[]∧∃x:FlV,r=.ag x.cs
section
variable (l:List UInt8)(hl:l.length≤9223372036854775807)(i h:Int)(hi:0≤i∧i≤l.length)
include hl hi
end
end Go.Ab
namespace Go.Ab
open Go Go.Proofs
section
variable (l:List UInt8)(hl:l.length≤9223372036854775807)(i h:Int)(hi:0≤i∧i≤l.length)
include hl hi
end
end Go.Ab
namespace Go.Ab
open Go
end Go.Ab
namespace Go.Ab
open Go Go.Proofs
end Go.Ab
namespace Go.Ab
open Go Go.Proofs
end Go.Ab
namespace Go.Ab
open Go Go.Proofs
section
variable (l:List UInt8)(hl:l.length≤9223372036854775807)(i h:Int)(hi:0≤i∧i≤l.length)
include hl hi
end
theorem aqB(l:List UInt8)(hl:l.length≤9223372036854775807):Con Tryz.prog 75 false [.sl l.length (qj l)] [] (fun r hs bs=>r=.pt 0 0∧bs=[]∧∃h:Int,hs=[.own 0 [.sl l.length (qj l),.v (.int .i64 0),.v (.int .i64 h)]]):=by
 refine Con.of_aw Tryz.func75 rfl Tryz.ntmps75 (by simp) (by simp) (by simp) (W.sound ?_)
 show @W Tryz.prog 32 ⟨_⟩ ⟨fun x σ=>@za _ _ _ ⟨_⟩ _ ⟨_⟩ x σ⟩ _ _
 simp(disch:=omega)only[go_sem]
 refine qi (fun x:Nat×Int=>[(0,.sl l.length (qj l)),(3,.v (.int .i64 x.2)),(4,.v (.int .i64 x.1))]) (fun _=>[]) (fun x=>x.1≤l.length) (fun x=>l.length-x.1) (0,IntKind.i64.wrap (38282+l.length)) (by simp)
  (Le.lst [] _ _ rfl (by simp(disch:=omega)only[go_sem]) (by simp(disch:=omega)only[go_sem])) ?_
 rintro⟨i,h⟩ hi
 dsimp only at hi ⊢
 have hfin:∀l':List AV,l'=[.pt 0 0]→(fun r hs bs=>r=.pt 0 0∧bs=[]∧∃h:Int,hs=[.own 0 [.sl l.length (qj l),.v (.int .i64 0),.v (.int .i64 h)]]:AV→List Ob→List Ob→Prop) (zj l') [.own 0 [.sl l.length (qj l),.v (.int .i64 0),.v (.int .i64 h)]] []:=fun l' e=>by subst e;exact⟨rfl,rfl,h,rfl⟩
 by_cases h1:(i:Int)<l.length
 ·by_cases h2:(i:Int)<4000
  ·simp(disch:=omega)only[go_sem,h1,h2]
   generalize IntKind.i64.wrap (IntKind.i64.wrap (IntKind.i64.wrap (h*131)+IntKind.i64.wrap ((l.getD i 0).toNat:Int))+7) % 1073741824=h'
   exact⟨⟨by omega,by omega⟩,by omega,qb (i+1,h') [] (by show i+1≤_;omega) (by show l.length-(i+1)<l.length-i;omega) rfl (by simp(disch:=omega)only[go_sem];try omega) (by simp(disch:=omega)only[go_sem])⟩
  ·simp(disch:=omega)only[go_sem,h1,h2]
   refine qg [(0,330000000)] [.own 0 [.sl l.length (qj l),.v (.int .i64 0),.v (.int .i64 h)]] [] [.pt 0 0] rfl (by simp(disch:=omega)only[go_sem]) (by simp(disch:=omega)only[go_sem]) (by simp) (by simp) (hfin _ rfl)
 ·simp(disch:=omega)only[go_sem,h1]
  refine qg [(0,330000000)] [.own 0 [.sl l.length (qj l),.v (.int .i64 0),.v (.int .i64 h)]] [] [.pt 0 0] rfl (by simp(disch:=omega)only[go_sem]) (by simp(disch:=omega)only[go_sem]) (by simp) (by simp) (hfin _ rfl)
end Go.Ab
namespace Go.Ab
open Go Go.Proofs
end Go.Ab
namespace Go.Ab
open Go Go.Proofs
end Go.Ab
namespace Go.Ab
open Go Go.Proofs
end Go.Ab
namespace Go.Ab
open Go Go.Proofs
end Go.Ab
namespace Go.Ab
open Go Go.Proofs
theorem Ju{s:Bool}{m:Nat}(h:(lim m).length≤100)(hs:m=0→s=false):zN s (lim m)=true:=by
 unfold zN
 rw[ao8 m h,Bool.true_and]
 by_cases h0:m=0
 ·rw[hs h0];rfl
 ·have:=Qa h0
  rw[decide_eq_false (show ¬(lim m).length=0 by omega),Bool.and_false];rfl
end Go.Ab
namespace Go.Ab
open Go Go.Proofs
def aY3(r:AV)(hs:List Ob)(xs:List Int):Prop:=(xs=[]∧r=.ag [.v (.slice none 0 0)]∧hs=[])∨∃zs,r=.ag [.rf 0 0 xs.length]∧hs=[.own 1 (qc (xs++zs))]
section
variable (l:List UInt8)(hl:l.length≤9223372036854775807)(i h:Int)(hi:0≤i∧i≤l.length)
include hl hi
theorem aeh:Con Tryz.prog 265 false [.pt 10000000 0] [.own 0 [.sl l.length (qj l),.v (.int .i64 i),.v (.int .i64 h)]] (fun r hs bs=>(∃xs:List Int,xs.length≤200∧aY3 r hs xs)∧∃i h:Int,(0≤i∧i≤l.length)∧bs=[.own 0 [.sl l.length (qj l),.v (.int .i64 i),.v (.int .i64 h)]]):=by
 refine Con.of_aw Tryz.func265 rfl Tryz.ntmps265 (by simp) (by simp) (by simp) (W.sound ?_)
 show @W Tryz.prog 43 ⟨_⟩ ⟨fun x σ=>@za _ _ _ ⟨_⟩ _ ⟨_⟩ x σ⟩ _ _
 simp(disch:=omega)only[go_sem]
 refine Qm false [10000000] (JW l hl i h hi) (by simp(disch:=omega)only[go_sem]) (by simp(disch:=omega)only[go_sem]) rfl (qS (z:=0) (cs:=[.sl l.length (qj l),.v (.int .i64 i),.v (.int .i64 h)]) (by simp(disch:=omega)only[go_sem]) (by simp(disch:=omega)only[go_sem])) (by intro n hn;exact⟨_,List.mem_cons_self ..,by rw[List.mem_singleton.1 hn];rfl⟩) ?_
 rintro r hs bs ⟨⟨m,hb,(⟨h0,rfl,rfl⟩|⟨zs,rfl,rfl⟩)⟩,i1,h1,hi1,rfl⟩-
 ·refine⟨by simp[qN],?_⟩
  simp(disch:=omega)only[go_sem]
  refine qu (qW l hl i1 h1 hi1 9 (by omega)) ?_
  rintro r i2 h2 hi2 ⟨b,rfl⟩
  simp(disch:=omega)only[go_sem]
  cases b
  ·simp(disch:=omega)only[go_sem]
   refine qg [] [] [.own 0 [.sl l.length (qj l),.v (.int .i64 i2),.v (.int .i64 h2)]] [.ag [.v (.slice none 0 0)]] rfl (by simp(disch:=omega)only[go_sem]) (by simp(disch:=omega)only[go_sem]) (by simp) (by simp) ⟨⟨[],by simp,.inl ⟨rfl,rfl,rfl⟩⟩,_,_,hi2,rfl⟩
  ·simp(disch:=omega)only[go_sem]
   refine qu (qJ l hl i2 h2 hi2 4 (by omega)) ?_
   rintro r i3 h3 hi3 ⟨q,hq,rfl⟩
   simp(disch:=omega)only[go_sem]
   by_cases c0:q=0
   ·simp(disch:=omega)only[go_sem,c0]
    refine qg [(0,280000000)] [.own 1 (qc ([0]++[]))] [.own 0 [.sl l.length (qj l),.v (.int .i64 i3),.v (.int .i64 h3)]] [.ag [.rf 0 0 1]] rfl (by simp(disch:=omega)only[go_sem]) (by simp(disch:=omega)only[go_sem];rfl) (by simp) (by simp) ⟨⟨[0],by simp,.inr ⟨[],rfl,rfl⟩⟩,_,_,hi3,rfl⟩
   by_cases c1:q=1
   ·simp(disch:=omega)only[go_sem,c0,c1]
    refine qg [(0,350000000)] [.own 1 (qc ([-1]++[]))] [.own 0 [.sl l.length (qj l),.v (.int .i64 i3),.v (.int .i64 h3)]] [.ag [.rf 0 0 1]] rfl (by simp(disch:=omega)only[go_sem]) (by simp(disch:=omega)only[go_sem];rfl) (by simp) (by simp) ⟨⟨[-1],by simp,.inr ⟨[],rfl,rfl⟩⟩,_,_,hi3,rfl⟩
   by_cases c2:q=2
   ·simp(disch:=omega)only[go_sem,c0,c1,c2]
    refine qg [(0,420000000)] [.own 1 (qc ([65536]++[]))] [.own 0 [.sl l.length (qj l),.v (.int .i64 i3),.v (.int .i64 h3)]] [.ag [.rf 0 0 1]] rfl (by simp(disch:=omega)only[go_sem]) (by simp(disch:=omega)only[go_sem];rfl) (by simp) (by simp) ⟨⟨[65536],by simp,.inr ⟨[],rfl,rfl⟩⟩,_,_,hi3,rfl⟩
   simp(disch:=omega)only[go_sem,c0,c1,c2]
   refine qi (fun x:List Int×List Int=>[(2,.pt 4 0),(3,.pt 3 0)]) (fun x=>[(1,.own 1 (qc (x.1++x.2))),(3,.own 0 [.rf 1 0 x.1.length]),(4,.own 0 [.v (.slice none 0 0)]),(10000000,.own 0 [.sl l.length (qj l),.v (.int .i64 i3),.v (.int .i64 h3)])])
    (fun x=>x.1.length≤101) (fun x=>101-x.1.length) ([],[])
    (by simp) ((Le.ghostC 50000000 0 1 1 (zo:=0) (cs:=[.v (.slice none 0 0)]) (by simp(disch:=omega)only[go_sem]) rfl (by simp(disch:=omega)only[go_sem])).trans (Le.lst [(3,50000000),(4,40000000)] _ _ rfl (by simp(disch:=omega)only[go_sem]) (by simp(disch:=omega)only[go_sem,List.set_cons_zero]))) ?_
   rintro⟨xs,ys⟩ hx
   dsimp only at hx ⊢
   simp(disch:=omega)only[go_sem]
   refine qe (fun c3=>?_) (fun c3=>?_)
   ·simp(disch:=omega)only[go_sem,c3]
    exact⟨⟨by simp,by omega⟩,qb (xs++[1],[]) [(1,210000000)] (by simp;omega) (by simp;omega) rfl (by simp(disch:=omega)only[go_sem,List.length_append];try omega) (by simp(disch:=omega)only[go_sem,List.length_append,List.append_nil,List.take_left])⟩
   ·simp(disch:=omega)only[go_sem,c3]
    refine qg [(0,1)] [.own 1 (qc (xs++ys))] [.own 0 [.sl l.length (qj l),.v (.int .i64 i3),.v (.int .i64 h3)]] [.ag [.rf 0 0 xs.length]] rfl (by simp(disch:=omega)only[go_sem]) (by simp(disch:=omega)only[go_sem]) (by simp) (by simp) ⟨⟨xs,by omega,.inr ⟨ys,rfl,rfl⟩⟩,_,_,hi3,rfl⟩
 ·have hx:=qG (m:=m) (B:=1600) hb
  refine⟨by simp[qN];simp(disch:=omega)only[go_sem],?_⟩
  simp(disch:=omega)only[go_sem]
  refine qu (qW l hl i1 h1 hi1 9 (by omega)) ?_
  rintro r i2 h2 hi2 ⟨b,rfl⟩
  simp(disch:=omega)only[go_sem]
  cases b
  ·simp(disch:=omega)only[go_sem]
   refine qg [(0,70000000)] [.own 1 (qc (lim m++zs))] [.own 0 [.sl l.length (qj l),.v (.int .i64 i2),.v (.int .i64 h2)]] [.ag [.rf 0 0 (lim m).length]] rfl (by simp(disch:=omega)only[go_sem]) (by simp(disch:=omega)only[go_sem]) (by simp) (by simp) ⟨⟨lim m,by have:=qG (m:=m) (B:=1600) hb;omega,.inr ⟨zs,rfl,rfl⟩⟩,_,_,hi2,rfl⟩
  ·simp(disch:=omega)only[go_sem]
   refine qu (qJ l hl i2 h2 hi2 4 (by omega)) ?_
   rintro r i3 h3 hi3 ⟨q,hq,rfl⟩
   simp(disch:=omega)only[go_sem]
   by_cases c0:q=0
   ·simp(disch:=omega)only[go_sem,c0]
    exact⟨⟨by simp,by omega⟩,qg [(0,280000000)] [.own 1 (qc (lim m++[0]++[]))] [.own 0 [.sl l.length (qj l),.v (.int .i64 i3),.v (.int .i64 h3)]] [.ag [.rf 0 0 ((lim m).length+1)]] rfl (by simp(disch:=omega)only[go_sem]) (by simp(disch:=omega)only[go_sem,List.take_left',List.append_nil]) (by simp) (by simp) ⟨⟨lim m++[0],by simp;omega,.inr ⟨[],by rw[List.length_append];rfl,rfl⟩⟩,_,_,hi3,rfl⟩⟩
   by_cases c1:q=1
   ·simp(disch:=omega)only[go_sem,c0,c1]
    exact⟨⟨by simp,by omega⟩,qg [(0,350000000)] [.own 1 (qc (lim m++[-1]++[]))] [.own 0 [.sl l.length (qj l),.v (.int .i64 i3),.v (.int .i64 h3)]] [.ag [.rf 0 0 ((lim m).length+1)]] rfl (by simp(disch:=omega)only[go_sem]) (by simp(disch:=omega)only[go_sem,List.take_left',List.append_nil]) (by simp) (by simp) ⟨⟨lim m++[-1],by simp;omega,.inr ⟨[],by rw[List.length_append];rfl,rfl⟩⟩,_,_,hi3,rfl⟩⟩
   by_cases c2:q=2
   ·simp(disch:=omega)only[go_sem,c0,c1,c2]
    exact⟨⟨by simp,by omega⟩,qg [(0,420000000)] [.own 1 (qc (lim m++[65536]++[]))] [.own 0 [.sl l.length (qj l),.v (.int .i64 i3),.v (.int .i64 h3)]] [.ag [.rf 0 0 ((lim m).length+1)]] rfl (by simp(disch:=omega)only[go_sem]) (by simp(disch:=omega)only[go_sem,List.take_left',List.append_nil]) (by simp) (by simp) ⟨⟨lim m++[65536],by simp;omega,.inr ⟨[],by rw[List.length_append];rfl,rfl⟩⟩,_,_,hi3,rfl⟩⟩
   simp(disch:=omega)only[go_sem,c0,c1,c2]
   refine qi (fun x:List Int×List Int=>[(2,.pt 4 0),(3,.pt 3 0)]) (fun x=>[(1,.own 1 (qc (x.1++x.2))),(3,.own 0 [.rf 1 0 x.1.length]),(4,.own 0 [.v (.slice none 0 0)]),(10000000,.own 0 [.sl l.length (qj l),.v (.int .i64 i3),.v (.int .i64 h3)])])
    (fun x=>x.1.length≤101) (fun x=>101-x.1.length) (lim m,zs)
    (by show(lim m).length≤101;omega) (Le.lst [(3,50000000),(4,40000000),(1,70000000)] _ _ rfl (by simp(disch:=omega)only[go_sem]) (by simp(disch:=omega)only[go_sem])) ?_
   rintro⟨xs,ys⟩ hx
   dsimp only at hx ⊢
   simp(disch:=omega)only[go_sem]
   refine qe (fun c3=>?_) (fun c3=>?_)
   ·simp(disch:=omega)only[go_sem,c3]
    exact⟨⟨by simp,by omega⟩,qb (xs++[1],[]) [(1,210000000)] (by simp;omega) (by simp;omega) rfl (by simp(disch:=omega)only[go_sem,List.length_append];try omega) (by simp(disch:=omega)only[go_sem,List.length_append,List.append_nil,List.take_left])⟩
   ·simp(disch:=omega)only[go_sem,c3]
    refine qg [(0,1)] [.own 1 (qc (xs++ys))] [.own 0 [.sl l.length (qj l),.v (.int .i64 i3),.v (.int .i64 h3)]] [.ag [.rf 0 0 xs.length]] rfl (by simp(disch:=omega)only[go_sem]) (by simp(disch:=omega)only[go_sem]) (by simp) (by simp) ⟨⟨xs,by omega,.inr ⟨ys,rfl,rfl⟩⟩,_,_,hi3,rfl⟩
omit hi hl in
theorem Con.cur{f:Nat}{args:List AV}{Q:AV→List Ob→Prop}{Q':AV→Prop}(hc:Con Tryz.prog f false args [.own 0 [.sl l.length (qj l),.v (.int .i64 i),.v (.int .i64 h)]] (fun r hs bs=>Q r hs∧∃i h:Int,(0≤i∧i≤l.length)∧bs=[.own 0 [.sl l.length (qj l),.v (.int .i64 i),.v (.int .i64 h)]]))
  (hq:∀r hs,Q r hs→(∀ob∈hs,ob.men fun _=>False)∧Q' (qF (rhp hs []) 6 r)):Con Tryz.prog f false args [.own 0 [.sl l.length (qj l),.v (.int .i64 i),.v (.int .i64 h)]] (YM l Q'):=
 (Con.frzB hc (by
  rintro r hs bs ⟨h1,i,h, -,rfl⟩
  exact⟨by simp[Ob.men,AllL,AV.All],(hq r hs h1).1⟩)).mono fun r hs bs=>by
   rintro⟨rfl,r0,hs0,⟨h1,h2⟩,rfl⟩
   exact⟨rfl,(hq _ _ h1).2,h2⟩
omit hi hl in
theorem Con.curF{f:Nat}{args:List AV}{Q Q':AV→Prop}(hc:Con Tryz.prog f false args [.own 0 [.sl l.length (qj l),.v (.int .i64 i),.v (.int .i64 h)]] (YM l Q))(hq:∀r,Q r→Q' (qF (rhp [] []) 6 r)):
  Con Tryz.prog f false args [.own 0 [.sl l.length (qj l),.v (.int .i64 i),.v (.int .i64 h)]] (YM l Q'):=
 Con.cur l i h (Q:=fun r hs=>hs=[]∧Q r) (hc.mono fun r hs bs ⟨h1,h2,h3⟩=>⟨⟨h1,h2⟩,h3⟩) fun r hs ⟨h1,h2⟩=>by subst h1;exact⟨by simp,hq r h2⟩
omit hi hl in
theorem Zc{r:AV}{hs:List Ob}{xs:List Int}(h:aY3 r hs xs):(∀ob∈hs,ob.men fun _=>False)∧qF (rhp hs []) 6 r=.ag [.sl xs.length (qc xs)]:=by
 rcases h with⟨rfl,rfl,rfl⟩|⟨zs,rfl,rfl⟩
 ·exact⟨by simp,rfl⟩
 ·refine⟨by intro ob ho;rw[List.mem_singleton.1 ho];exact Zi,?_⟩
  show AV.ag [qF _ 5 (.rf 0 0 xs.length)]=_
  rw[jR q9 rfl]
theorem aeg:Con Tryz.prog 282 false [.pt 10000000 0] [.own 0 [.sl l.length (qj l),.v (.int .i64 i),.v (.int .i64 h)]] (YM l fun r=>∃m:Nat,bl m≤1600∧r=.ag [.sl (lim (m)).length (qc (lim (m)))]):=
 Con.cur l i h (JW l hl i h hi) fun r hs ⟨m,hb,hr⟩=>by
  have:aY3 r hs (lim m):=hr.elim (fun⟨h0,h1,h2⟩=>.inl ⟨by rw[h0,qo],h1,h2⟩) .inr
  exact⟨(Zc this).1,m,hb,(Zc this).2⟩
theorem ajP:Con Tryz.prog 265 false [.pt 10000000 0] [.own 0 [.sl l.length (qj l),.v (.int .i64 i),.v (.int .i64 h)]] (YM l fun r=>∃xs:List Int,xs.length≤200∧r=.ag [.sl xs.length (qc xs)]):=
 Con.cur l i h (aeh l hl i h hi) fun r hs ⟨xs,hb,hr⟩=>⟨(Zc hr).1,xs,hb,(Zc hr).2⟩
theorem JU:Con Tryz.prog 264 false [.pt 10000000 0] [.own 0 [.sl l.length (qj l),.v (.int .i64 i),.v (.int .i64 h)]] (YM l fun r=>∃(s:Bool) (m:Nat),bl m≤1600∧r=.ag [.v (.bool (s&&decide (m≠0))),.sl (lim (m)).length (qc (lim (m)))]):=by
 refine Con.of_aw Tryz.func264 rfl Tryz.ntmps264 (by simp) (by simp) (by simp) (W.sound ?_)
 show @W Tryz.prog 8 ⟨_⟩ ⟨fun x σ=>@za _ _ _ ⟨_⟩ _ ⟨_⟩ x σ⟩ _ _
 simp(disch:=omega)only[go_sem]
 refine qu (qW l hl i h hi 2 (by omega)) ?_
 rintro r i1 h1 hi1 ⟨b,rfl⟩
 simp(disch:=omega)only[go_sem]
 refine qu (aeg l hl i1 h1 hi1) ?_
 rintro r i2 h2 hi2 ⟨m,hm,rfl⟩
 simp(disch:=omega)only[go_sem]
 have hx:=qG (m:=m) (B:=1600) hm
 refine qa (zT b m (by omega)) ?_
 simp(disch:=omega)only[go_sem]
 refine qU (i2) (h2) ⟨b,m,hm,rfl⟩
theorem ajN:Con Tryz.prog 221 false [.pt 10000000 0] [.own 0 [.sl l.length (qj l),.v (.int .i64 i),.v (.int .i64 h)]] (YM l fun r=>∃(s:Bool) (xs:List Int),xs.length≤200∧r=.ag [.v (.bool s),.sl xs.length (qc xs)]):=by
 refine Con.curF (Q:=fun r=>∃(s:Bool) (xs:List Int),xs.length≤200∧(r=.ag [.v (.bool s),.sl xs.length (qc xs)]∨(xs=[]∧r=.ag [.v (.bool s),.v (.slice none 0 0)]))) l i h ?_ (fun r ⟨s,xs,h1,h2⟩=>⟨s,xs,h1,h2.elim (fun h=>by rw[h];rfl) fun⟨h,h'⟩=>by rw[h,h'];rfl⟩)
 refine Con.of_aw Tryz.func221 rfl Tryz.ntmps221 (by simp) (by simp) (by simp) (W.sound ?_)
 show @W Tryz.prog 15 ⟨_⟩ ⟨fun x σ=>@za _ _ _ ⟨_⟩ _ ⟨_⟩ x σ⟩ _ _
 simp(disch:=omega)only[go_sem]
 refine qu (JU l hl i h hi) ?_
 rintro r i1 h1 hi1 ⟨s,m,hm,rfl⟩
 simp(disch:=omega)only[go_sem]
 have hx:=qG (m:=m) (B:=1600) hm
 refine qu (qW l hl i1 h1 hi1 9 (by omega)) ?_
 rintro r i2 h2 hi2 ⟨b,rfl⟩
 simp(disch:=omega)only[go_sem]
 cases b
 ·simp(disch:=omega)only[go_sem]
  refine qU (i2) (h2) ⟨_,lim m,by omega,.inl rfl⟩
 ·simp(disch:=omega)only[go_sem]
  refine qu (qW l hl i2 h2 hi2 2 (by omega)) ?_
  rintro r i3 h3 hi3 ⟨b,rfl⟩
  simp(disch:=omega)only[go_sem]
  cases b
  ·simp(disch:=omega)only[go_sem]
   refine qu (ajP l hl i3 h3 hi3) ?_
   rintro r i4 h4 hi4 ⟨xs,hxs,rfl⟩
   simp(disch:=omega)only[go_sem]
   refine qU (i4) (h4) ⟨_,xs,hxs,.inl rfl⟩
  ·simp(disch:=omega)only[go_sem]
   refine qU (i3) (h3) ⟨true,[],by simp,.inr ⟨rfl,rfl⟩⟩
omit hi hl in
theorem YJ:AV.ag [.v (.bool false),.sl 0 [],.v (.int .i64 0)]=.ag [.v (.bool (ex0).s),.sl (lim (ex0).m).length (qc (lim (ex0).m)),.v (.int .i64 (ex0).e)]:=by
 show _=AV.ag [.v (.bool false),.sl (lim 0).length (qc (lim 0)),.v (.int .i64 0)]
 rw[qo];rfl
omit hi hl in
theorem Ql(x:ExV)(h:zN x.s (lim x.m)=true)(he: -12000≤x.e∧x.e≤12000):Con Tryz.prog 126 false [.ag [.v (.bool (x.s)),.sl (lim (x.m)).length (qc (lim (x.m)))],.v (.int .i64 x.e)] [] (isA (.tu [.ag [.v (.bool (x.tel).s),.sl (lim (x.tel).m).length (qc (lim (x.tel).m)),.v (.int .i64 (x.tel).e)],.v (.bool x.fit)])):=by
 have c:=aaE x.s x.m x.e h he
 rw[show j0 x.m x.e=x.fit from rfl]at c
 unfold ExV.tel
 cases hf:x.fit<;>rw[hf]at c<;>exact c
omit hi hl in
theorem aKE{m:Nat}(h:bl m≤1600):(lim m).length≤100:=jB.2 (Nat.lt_of_lt_of_eq (zE.1 h) (by decide+kernel))
theorem JS:Con Tryz.prog 220 false [.pt 10000000 0] [.own 0 [.sl l.length (qj l),.v (.int .i64 i),.v (.int .i64 h)]] (YM l fun r=>∃x:ExV,x.ok=true∧r=.ag [.v (.bool (x).s),.sl (lim (x).m).length (qc (lim (x).m)),.v (.int .i64 (x).e)]):=by
 refine Con.curF (Q:=fun r=>∃x:ExV,x.ok=true∧qF (rhp [] []) 6 r=.ag [.v (.bool (x).s),.sl (lim (x).m).length (qc (lim (x).m)),.v (.int .i64 (x).e)]) l i h ?_ fun _ h=>h
 refine Con.of_aw Tryz.func220 rfl Tryz.ntmps220 (by simp) (by simp) (by simp) (W.sound ?_)
 show @W Tryz.prog 33 ⟨_⟩ ⟨fun x σ=>@za _ _ _ ⟨_⟩ _ ⟨_⟩ x σ⟩ _ _
 simp(disch:=omega)only[go_sem]
 refine qu (JU l hl i h hi) ?_
 rintro r i1 h1 hi1 ⟨s,m,hm,rfl⟩
 simp(disch:=omega)only[go_sem]
 have hx:=qG (m:=m) (B:=1600) hm
 refine qu (qW l hl i1 h1 hi1 3 (by omega)) ?_
 rintro r i2 h2 hi2 ⟨b,rfl⟩
 simp(disch:=omega)only[go_sem]
 have ww:∀(s:Bool) (m:Nat),bl m≤1600→zN (s&&decide (m≠0)) (lim m)=true:=fun s m hm=>Ju (aKE hm) (by intro h;simp[h])
 cases b
 ·simp(disch:=omega)only[go_sem]
  refine qu (qJ l hl i2 h2 hi2 24 (by omega)) ?_
  rintro r i3 h3 hi3 ⟨k,hk,rfl⟩
  simp(disch:=omega)only[go_sem]
  have hk2:=hk.2 (by omega)
  refine qu (qW l hl i3 h3 hi3 6 (by omega)) ?_
  rintro r i4 h4 hi4 ⟨b,rfl⟩
  simp(disch:=omega)only[go_sem]
  cases b
  ·simp(disch:=omega)only[go_sem]
   refine qa (Ql ⟨s&&decide (m≠0),m,k-12⟩ (ww s m hm) (by show-12000≤k-12∧k-12≤12000;omega)) ?_
   simp(disch:=omega)only[go_sem]
   have ok:=aeO ⟨s&&decide (m≠0),m,k-12⟩
   generalize ExV.tel ⟨s&&decide (m≠0),m,k-12⟩=y at*
   cases hf:ExV.fit ⟨s&&decide (m≠0),m,k-12⟩
   ·simp(disch:=omega)only[go_sem,hf]
    refine qU (i4) (h4) ⟨ex0,ZX,by simp(disch:=omega)only[go_sem];exact YJ⟩
   ·simp(disch:=omega)only[go_sem,hf]
    refine qU (i4) (h4) ⟨y,ok,by simp(disch:=omega)only[go_sem]⟩
  ·simp(disch:=omega)only[go_sem]
   refine jP (zz l hl i4 h4 hi4 [0, -60,60, -1074,900, -2990,2990, -100] (by simp) (by simp)) ?_
   rintro r i5 h5 hi5 ⟨x,hx,rfl⟩
   have hx_b: -3000≤x∧x≤3000:=by
    simp only[List.mem_cons,List.not_mem_nil,or_false]at hx
    omega
   clear hx
   simp(disch:=omega)only[go_sem]
   refine qa (Ql ⟨s&&decide (m≠0),m,x⟩ (ww s m hm) (by show-12000≤x∧x≤12000;omega)) ?_
   simp(disch:=omega)only[go_sem]
   have ok:=aeO ⟨s&&decide (m≠0),m,x⟩
   generalize ExV.tel ⟨s&&decide (m≠0),m,x⟩=y at*
   cases hf:ExV.fit ⟨s&&decide (m≠0),m,x⟩
   ·simp(disch:=omega)only[go_sem,hf]
    refine qU (i5) (h5) ⟨ex0,ZX,by simp(disch:=omega)only[go_sem];exact YJ⟩
   ·simp(disch:=omega)only[go_sem,hf]
    refine qU (i5) (h5) ⟨y,ok,by simp(disch:=omega)only[go_sem]⟩
 ·simp(disch:=omega)only[go_sem]
  refine qu (qJ l hl i2 h2 hi2 40 (by omega)) ?_
  rintro r i3 h3 hi3 ⟨q,hq,rfl⟩
  simp(disch:=omega)only[go_sem]
  have hq2:=hq.2 (by omega)
  refine qa (YS (q-20) (by omega)) ?_
  simp(disch:=omega)only[go_sem]
  have wq:zN (decide (q-20<0)) (lim (q-20).natAbs)=true:=Ju (by have:=qG (m:=(q-20).natAbs) (B:=6) (zE.2 (by omega));omega) (by intro h;simp;omega)
  refine qu (qJ l hl i3 h3 hi3 24 (by omega)) ?_
  rintro r i4 h4 hi4 ⟨k,hk,rfl⟩
  simp(disch:=omega)only[go_sem]
  have hk2:=hk.2 (by omega)
  refine qu (qW l hl i4 h4 hi4 6 (by omega)) ?_
  rintro r i5 h5 hi5 ⟨b,rfl⟩
  simp(disch:=omega)only[go_sem]
  cases b
  ·simp(disch:=omega)only[go_sem]
   refine qa (Ql ⟨decide (q-20<0),(q-20).natAbs,k-12⟩ (wq) (by show-12000≤k-12∧k-12≤12000;omega)) ?_
   simp(disch:=omega)only[go_sem]
   have ok:=aeO ⟨decide (q-20<0),(q-20).natAbs,k-12⟩
   generalize ExV.tel ⟨decide (q-20<0),(q-20).natAbs,k-12⟩=y at*
   cases hf:ExV.fit ⟨decide (q-20<0),(q-20).natAbs,k-12⟩
   ·simp(disch:=omega)only[go_sem,hf]
    refine qU (i5) (h5) ⟨ex0,ZX,by simp(disch:=omega)only[go_sem];exact YJ⟩
   ·simp(disch:=omega)only[go_sem,hf]
    refine qU (i5) (h5) ⟨y,ok,by simp(disch:=omega)only[go_sem]⟩
  ·simp(disch:=omega)only[go_sem]
   refine jP (zz l hl i5 h5 hi5 [0, -60,60, -1074,900, -2990,2990, -100] (by simp) (by simp)) ?_
   rintro r i6 h6 hi6 ⟨x,hx,rfl⟩
   have hx_b: -3000≤x∧x≤3000:=by
    simp only[List.mem_cons,List.not_mem_nil,or_false]at hx
    omega
   clear hx
   simp(disch:=omega)only[go_sem]
   refine qa (Ql ⟨decide (q-20<0),(q-20).natAbs,x⟩ (wq) (by show-12000≤x∧x≤12000;omega)) ?_
   simp(disch:=omega)only[go_sem]
   have ok:=aeO ⟨decide (q-20<0),(q-20).natAbs,x⟩
   generalize ExV.tel ⟨decide (q-20<0),(q-20).natAbs,x⟩=y at*
   cases hf:ExV.fit ⟨decide (q-20<0),(q-20).natAbs,x⟩
   ·simp(disch:=omega)only[go_sem,hf]
    refine qU (i6) (h6) ⟨ex0,ZX,by simp(disch:=omega)only[go_sem];exact YJ⟩
   ·simp(disch:=omega)only[go_sem,hf]
    refine qU (i6) (h6) ⟨y,ok,by simp(disch:=omega)only[go_sem]⟩
theorem JT:Con Tryz.prog 154 false [.pt 10000000 0] [.own 0 [.sl l.length (qj l),.v (.int .i64 i),.v (.int .i64 h)]] (YM l fun r=>∃d:DyV,d.xs.length≤200∧r=.ag d.cs):=by
 refine Con.of_aw Tryz.func154 rfl Tryz.ntmps154 (by simp) (by simp) (by simp) (W.sound ?_)
 show @W Tryz.prog 28 ⟨_⟩ ⟨fun x σ=>@za _ _ _ ⟨_⟩ _ ⟨_⟩ x σ⟩ _ _
 simp(disch:=omega)only[go_sem]
 refine qu (JS l hl i h hi) ?_
 rintro r i1 h1 hi1 ⟨x,hx,rfl⟩
 simp(disch:=omega)only[go_sem]
 have lx:=(jq hx).2.2.1
 refine qu (qW l hl i1 h1 hi1 9 (by omega)) ?_
 rintro r i2 h2 hi2 ⟨b,rfl⟩
 simp(disch:=omega)only[go_sem]
 cases b
 ·simp(disch:=omega)only[go_sem]
  refine qU (i2) (h2) ⟨⟨x.s,lim x.m,x.e⟩,by show(lim x.m).length≤200;omega,rfl⟩
 ·simp(disch:=omega)only[go_sem]
  refine qu (qJ l hl i2 h2 hi2 3 (by omega)) ?_
  rintro r i3 h3 hi3 ⟨q,hq,rfl⟩
  simp(disch:=omega)only[go_sem]
  by_cases c0:q=0
  ·simp(disch:=omega)only[go_sem,c0]
   refine jP (zz l hl i3 h3 hi3 [-3001,3001,3000,4611686018427387904] (by simp) (by simp)) ?_
   rintro r i4 h4 hi4 ⟨y,hy,rfl⟩
   clear hy
   simp(disch:=omega)only[go_sem]
   refine qU (i4) (h4) ⟨⟨x.s,lim x.m,y⟩,by show(lim x.m).length≤200;omega,rfl⟩
  by_cases c1:q=1
  ·simp(disch:=omega)only[go_sem,c0,c1]
   refine qu (ajN l hl i3 h3 hi3) ?_
   rintro r i4 h4 hi4 ⟨s,xs,hxs,rfl⟩
   simp(disch:=omega)only[go_sem]
   refine qU (i4) (h4) ⟨⟨s,xs,x.e⟩,hxs,rfl⟩
  simp(disch:=omega)only[go_sem,c0,c1]
  refine qU (i3) (h3) ⟨⟨!x.s,lim x.m,x.e⟩,by show(lim x.m).length≤200;omega,rfl⟩
end
end Go.Ab
namespace Go.Ab
open Go
def z3:List AV:=[.v (.bool false),.v (.slice none 0 0),.v (.int .i64 0)]
def z6:List AV:=[.v (.bool false),.v (.slice none 0 0),.v (.int .i64 0),.v (.bool false),.v (.slice none 0 0),.v (.int .i64 0)]
section
variable {X:Type}{f:X→List AV}{z:Nat}{n:Nat}{zs:List AV}{ρ:Nat→Nat}{p:Nat→Prop}
theorem aeC(h:zM ρ zs=zs):zM ρ (zQ n zs)=zQ n zs:=by
 unfold zQ
 induction n with
 |zero=>rfl
 |succ n ih=>
  rw[List.replicate_succ,List.flatten_cons]
  have:∀a b:List AV,zM ρ (a++b)=zM ρ a++zM ρ b:=fun a b=>by simp[qP]
  rw[this,h,ih]
theorem aeD(h:AllL p zs):AllL p (zQ n zs):=by
 unfold zQ
 induction n with
 |zero=>simp[AllL]
 |succ n ih=>rw[List.replicate_succ,List.flatten_cons];exact AllL.append h ih
theorem aaP:∀(ks a b:List AV) (o:Nat),o+ks.length≤a.length→wr (a++b) o ks=wr a o ks++b
 | [],a,b,o,_=>by simp[wr]
 |k::r,a,b,o,h=>by
  simp only[List.length_cons]at h
  rw[wr,wr,List.set_append_left _ _ (by omega),aaP r]
  rw[List.length_set];omega
theorem aA1(hz:∀x,(f x).length=z){x y:X}{L:List X}:wr (ql f (x::L)) 0 (f y)=ql f (y::L):=by
 rw[zp,zp,aaP _ _ _ _ (by rw[hz,hz];omega)]
 have:=Zm [] (f x) (f y) (by rw[hz,hz])
 rw[List.nil_append,List.nil_append]at this
 exact congrArg (· ++ql f L) this
theorem aA2(hz:∀x,(f x).length=z)(hs:zs.length=z){L:List X}{k:Nat}(x:X):wr (ql f L++zQ (k+1) zs) (L.length*z) (f x)=ql f (L++[x])++zQ k zs:=by
 unfold zQ
 rw[List.replicate_succ,List.flatten_cons,←List.append_assoc]
 have h1:(ql f L++zs).length=(ql f L).length+z:=by simp[hs]
 have h2:=Zm (ql f L) zs (f x) (by rw[hz,hs])
 rw[yP hz]at h2
 rw[aaP _ _ _ _ (by rw[h1,yP hz,hz];exact Nat.le_refl _),h2,←Ye,zp,yg,List.append_nil]
theorem aDG:zM ρ (zQ n z3)=zQ n z3:=aeC rfl
theorem aDH:AllL p (zQ n z3)=True:=eq_true (aeD (by simp[z3,AllL,AV.All]))
theorem akj:(zQ n z3).length=n*3:=zl n z3
theorem aM1:zM ρ (zQ n z6)=zQ n z6:=aeC rfl
theorem aM3:AllL p (zQ n z6)=True:=eq_true (aeD (by simp[z6,AllL,AV.All]))
theorem aM2:(zQ n z6).length=n*6:=zl n z6
theorem aM0:zQ 0 zs=[]:=by simp[zQ]
theorem ae3{L:List ExV}{k:Nat}{x:ExV}:wr (ql ExV.cs L++zQ (k+1) z3) (L.length*3) [.v (.bool x.s),.sl (lim x.m).length (qc (lim x.m)),.v (.int .i64 x.e)]=ql ExV.cs (L++[x])++zQ k z3:=aA2 ae5 rfl x
theorem aCL{x:DyV}{L:List DyV}{s:Bool}{xs:List Int}{e:Int}:wr (ql DyV.cs (x::L)) 0 [.v (.bool s),.sl xs.length (qc xs),.v (.int .i64 e)]=ql DyV.cs (⟨s,xs,e⟩::L):=aA1 afa (y:=⟨s,xs,e⟩)
theorem aBa{a b:List AV}:zM ρ (a++b)=zM ρ a++zM ρ b:=by simp[qP]
theorem aDx{a b:List AV}:AllL p (a++b)=(AllL p a∧AllL p b):=propext ⟨fun h=>by
 induction a with
 |nil=>exact⟨by simp[AllL],h⟩
 |cons x r ih=>exact⟨⟨h.1,(ih h.2).1⟩,(ih h.2).2⟩,fun h=>AllL.append h.1 h.2⟩
end
attribute [go_sem] aDG aDH akj aM1 aM3 aM2 aBa aDx
end Go.Ab
namespace Go.Ab
open Go Go.Proofs
theorem aqt(n:Nat)(hn:n≤4):Con Tryz.prog 212 false [.v (.int .i64 n)] [] (fun r hs bs=>r=.ag [.v (.int .i64 n),.rf 0 0 (n*n)]∧hs=[.own 3 (zQ (n*n) z3)]):=by
 have hq:=ye hn
 have hz:((n:Int)*n).toNat=n*n:=by rw[←Int.natCast_mul];rfl
 have hz2:(n:Int)*n=((n*n:Nat):Int):=(Int.natCast_mul n n).symm
 refine Con.of_aw Tryz.func212 rfl Tryz.ntmps212 (by simp) (by simp) (by simp) (W.sound ?_)
 show @W Tryz.prog 9 ⟨_⟩ ⟨fun x σ=>@za _ _ _ ⟨_⟩ _ ⟨_⟩ x σ⟩ _ _
 simp(disch:=omega)only[go_sem]
 rw[hz]
 refine⟨by rw[hz2];omega,qg [(0,90000000)] [.own 3 (zQ (n*n) z3)] [] [.ag [.v (.int .i64 n),.rf 0 0 (n*n)]] rfl (by simp(disch:=omega)only[go_sem]) (by simp(disch:=omega)only[go_sem,aDG,aDH];rfl) (by simp) (by simp) ⟨rfl,rfl⟩⟩
section
variable (l:List UInt8)(hl:l.length≤9223372036854775807)(i h:Int)(hi:0≤i∧i≤l.length)
include hl hi
theorem Z3:Con Tryz.prog 162 false [.pt 10000000 0] [.own 0 [.sl l.length (qj l),.v (.int .i64 i),.v (.int .i64 h)]] (YM l fun r=>∃x:ExV,x.ok=true∧r=.ag [.v (.bool (x).s),.sl (lim (x).m).length (qc (lim (x).m)),.v (.int .i64 (x).e)]):=by
 refine Con.of_aw Tryz.func162 rfl Tryz.ntmps162 (by simp) (by simp) (by simp) (W.sound ?_)
 show @W Tryz.prog 11 ⟨_⟩ ⟨fun x σ=>@za _ _ _ ⟨_⟩ _ ⟨_⟩ x σ⟩ _ _
 simp(disch:=omega)only[go_sem]
 refine qu (qJ l hl i h hi 17 (by omega)) ?_
 rintro r i1 h1 hi1 ⟨k,hk,rfl⟩
 simp(disch:=omega)only[go_sem]
 have hk2:=hk.2 (by omega)
 refine qa (YS (k-8) (by omega)) ?_
 simp(disch:=omega)only[go_sem]
 refine qu (qJ l hl i1 h1 hi1 4 (by omega)) ?_
 rintro r i2 h2 hi2 ⟨q,hq,rfl⟩
 simp(disch:=omega)only[go_sem]
 have hq2:=hq.2 (by omega)
 have b6:bl (k-8).natAbs≤6:=zE.2 (by omega)
 have cf:=QL (decide (k-8<0)) (k-8).natAbs (0-q) (by omega) (by omega)
 have hf:(ExV.mk (decide (k-8<0)) (k-8).natAbs (0-q)).can.ok=true:=by
  rw[aL1]
  show j0 (k-8).natAbs (0-q)=true
  exact ap5 (by omega) (by omega)
 have hc:ExV.mk (oS (decide (k-8<0)) (k-8).natAbs) (oM (k-8).natAbs) (oE (k-8).natAbs (0-q))=(ExV.mk (decide (k-8<0)) (k-8).natAbs (0-q)).can:=rfl
 rw[←hc]at hf
 generalize oS (decide (k-8<0)) (k-8).natAbs=S at*
 generalize oM (k-8).natAbs=M at*
 generalize oE (k-8).natAbs (0-q)=E at*
 refine qa (cf) ?_
 simp(disch:=omega)only[go_sem]
 refine qU (i2) (h2) ⟨⟨S,M,E⟩,hf,rfl⟩
theorem ajK(n:Nat)(hn:n≤4):Con Tryz.prog 161 false [.pt 10000000 0,.v (.int .i64 n)] [.own 0 [.sl l.length (qj l),.v (.int .i64 i),.v (.int .i64 h)]] (fun r hs bs=>(∃L:List ExV,L.length=n*n∧(∀x∈L,x.ok=true)∧r=.ag [.v (.int .i64 n),.rf 0 0 (n*n)]∧hs=[.own 3 (ql ExV.cs L)])∧∃i h:Int,(0≤i∧i≤l.length)∧bs=[.own 0 [.sl l.length (qj l),.v (.int .i64 i),.v (.int .i64 h)]]):=by
 have hq:=ye hn
 refine Con.of_aw Tryz.func161 rfl Tryz.ntmps161 (by simp) (by simp) (by simp) (W.sound ?_)
 show @W Tryz.prog 31 ⟨_⟩ ⟨fun x σ=>@za _ _ _ ⟨_⟩ _ ⟨_⟩ x σ⟩ _ _
 simp(disch:=omega)only[go_sem]
 refine qY (aqt n hn) (by simp(disch:=omega)only[go_sem]) ?_
 rintro r hs ⟨rfl,rfl⟩
 refine⟨by simp[qN];simp(disch:=omega)only[go_sem],?_⟩
 simp(disch:=omega)only[go_sem]
 refine qi (fun x:List ExV×Int×Int=>[(0,.pt 10000000 0),(4,.pt 4 0),(5,.pt 5 0),(6,.v (.int .i64 x.1.length))])
  (fun x=>[(3,.own 3 (ql ExV.cs x.1++zQ (n*n-x.1.length) z3)),(4,.own 0 [.v (.int .i64 0),.v (.slice none 0 0)]),(5,.own 0 [.v (.int .i64 n),.rf 3 0 (n*n)]),(10000000,.own 0 [.sl l.length (qj l),.v (.int .i64 x.2.1),.v (.int .i64 x.2.2)])])
  (fun x=>x.1.length≤n*n∧(∀y∈x.1,y.ok=true)∧(0≤x.2.1∧x.2.1≤l.length)) (fun x=>n*n-x.1.length) ([],i,h) ⟨by simp,by simp,hi⟩
  (Le.lst [(3,100000000),(4,60000000),(5,70000000)] _ _ rfl (by simp(disch:=omega)only[go_sem]) (by simp(disch:=omega)only[go_sem,ZW,List.nil_append];try rfl)) ?_
 rintro⟨L,i2,h2⟩ ⟨hL,hok,hi2⟩
 dsimp only at hL hok hi2 ⊢
 simp(disch:=omega)only[go_sem]
 refine qe (fun c1=>?_) (fun c1=>?_)
 ·obtain⟨k,hk⟩:∃k,n*n-L.length=k+1:=⟨n*n-L.length-1,by omega⟩
  rw[hk]
  simp(disch:=omega)only[go_sem,c1]
  refine qu (qW l hl i2 h2 hi2 25 (by omega)) ?_
  rintro r i3 h3 hi3 ⟨b,rfl⟩
  simp(disch:=omega)only[go_sem]
  cases b
  ·simp(disch:=omega)only[go_sem]
   refine qs rfl [⟨0,[],[]⟩,⟨1,[],[]⟩,⟨2,[1],[]⟩,⟨3,[1],[]⟩,⟨4,[1],[]⟩,⟨5,[],[]⟩,⟨6,[],[]⟩] (by kernel_rfl) ?_
   simp(disch:=omega)only[go_sem]
   refine qu (Z3 l hl i3 h3 hi3) ?_
   rintro r i4 h4 hi4 ⟨x,hx,rfl⟩
   simp(disch:=omega)only[go_sem]
   have hl3:(L++[x]).length=L.length+1:=by simp
   rw[ae3]
   refine⟨by omega,by rw[List.length_append,YH,akj];omega,qb (L++[x],i4,h4) [] ⟨by dsimp only;omega,fun y hy=>?_,hi4⟩ (by show n*n-(L++[x]).length<k+1;omega) rfl (by simp(disch:=omega)only[go_sem,hl3];try omega) (by simp(disch:=omega)only[go_sem,hl3,show n*n-(L.length+1)=k by omega])⟩
   rcases List.mem_append.1 hy with hy|hy
   ·exact hok y hy
   ·rw[List.mem_singleton.1 hy];exact hx
  ·simp(disch:=omega)only[go_sem]
   refine qs rfl [⟨0,[],[]⟩,⟨1,[],[]⟩,⟨2,[1],[]⟩,⟨3,[1],[]⟩,⟨4,[1],[]⟩,⟨5,[],[]⟩,⟨6,[],[]⟩] (by kernel_rfl) ?_
   simp(disch:=omega)only[go_sem]
   refine qu (JS l hl i3 h3 hi3) ?_
   rintro r i4 h4 hi4 ⟨x,hx,rfl⟩
   simp(disch:=omega)only[go_sem]
   have hl3:(L++[x]).length=L.length+1:=by simp
   rw[ae3]
   refine⟨by omega,by rw[List.length_append,YH,akj];omega,qb (L++[x],i4,h4) [] ⟨by dsimp only;omega,fun y hy=>?_,hi4⟩ (by show n*n-(L++[x]).length<k+1;omega) rfl (by simp(disch:=omega)only[go_sem,hl3];try omega) (by simp(disch:=omega)only[go_sem,hl3,show n*n-(L.length+1)=k by omega])⟩
   rcases List.mem_append.1 hy with hy|hy
   ·exact hok y hy
   ·rw[List.mem_singleton.1 hy];exact hx
 ·obtain hLn:L.length=n*n:=by omega
  simp(disch:=omega)only[go_sem,c1]
  refine qg [(0,3)] [.own 3 (ql ExV.cs L)] [.own 0 [.sl l.length (qj l),.v (.int .i64 i2),.v (.int .i64 h2)]] [.ag [.v (.int .i64 n),.rf 0 0 (n*n)]] rfl (by simp(disch:=omega)only[go_sem]) (by simp(disch:=omega)only[go_sem,hLn,Nat.sub_self,aM0,List.append_nil]) (by simp) (by simp) ⟨⟨L,hLn,hok,rfl,rfl⟩,_,_,hi2,rfl⟩
theorem aLR:Con Tryz.prog 77 false [.pt 10000000 0] [.own 0 [.sl l.length (qj l),.v (.int .i64 i),.v (.int .i64 h)]] (YM l fun r=>∃n:Nat,(1≤n∧n≤4)∧r=.v (.int .i64 n)):=by
 refine Con.of_aw Tryz.func77 rfl Tryz.ntmps77 (by simp) (by simp) (by simp) (W.sound ?_)
 show @W Tryz.prog 6 ⟨_⟩ ⟨fun x σ=>@za _ _ _ ⟨_⟩ _ ⟨_⟩ x σ⟩ _ _
 simp(disch:=omega)only[go_sem]
 refine qu (qJ l hl i h hi 4 (by omega)) ?_
 rintro r i1 h1 hi1 ⟨k,hk,rfl⟩
 simp(disch:=omega)only[go_sem]
 have hk2:=hk.2 (by omega)
 obtain⟨m,rfl⟩:=Int.eq_ofNat_of_zero_le hk.1
 refine qU (i1) (h1) ⟨m+1,by omega,by rw[show((m+1:Nat):Int)=1+(m:Int) by omega];rfl⟩
def aZm(r:AV):Prop:=∃(n:Int) (l:List DyV),l.length≤16∧(∀d∈l,d.xs.length≤200)∧r=.ag [.v (.int .i64 n),.sl l.length (ql DyV.cs l)]
omit hl hi in
theorem aKv{n:Int}{L:List DyV}{o k:Nat}(h1:L.length=o+k)(h2:L.length≤16)(h3:∀d∈L,d.xs.length≤200):aZm (qF (rhp [.own 3 (ql DyV.cs L)] []) 6 (.ag [.v (.int .i64 n),.rf 0 (o*3) k])):=by
 refine⟨n,(L.drop o).take k,?_,fun d hd=>h3 d (List.mem_of_mem_drop (List.mem_of_mem_take hd)),?_⟩
 ·rw[List.length_take,List.length_drop];omega
 ·have e:((L.drop o).take k).length=k:=by rw[List.length_take,List.length_drop];omega
  rw[e]
  show AV.ag [_,qF _ 5 (.rf 0 (o*3) k)]=_
  simp only[adw,q9]
  rw[adz afa,ae9]
  rfl
omit hl hi in
theorem aJa(L:List ExV):ql ExV.cs L=ql DyV.cs (L.map ExV.dy):=aEH L
def bbr(n:Nat)(r:AV)(hs:List Ob):Prop:=∃(k:Int) (M:List DyV) (o m:Nat),M.length=o+m∧o≤1∧M.length=n*n∧(∀d∈M,d.xs.length≤200)∧r=.ag [.v (.int .i64 k),.rf 0 (o*3) m]∧hs=[.own 3 (ql DyV.cs M)]
theorem aed(n:Nat)(hn:1≤n∧n≤4):Con Tryz.prog 76 false [.pt 10000000 0,.v (.int .i64 n)] [.own 0 [.sl l.length (qj l),.v (.int .i64 i),.v (.int .i64 h)]] (fun r hs bs=>bbr n r hs∧∃i h:Int,(0≤i∧i≤l.length)∧bs=[.own 0 [.sl l.length (qj l),.v (.int .i64 i),.v (.int .i64 h)]]):=by
 have hq:=ye hn.2
 refine Con.of_aw Tryz.func76 rfl Tryz.ntmps76 (by simp) (by simp) (by simp) (W.sound ?_)
 show @W Tryz.prog 33 ⟨_⟩ ⟨fun x σ=>@za _ _ _ ⟨_⟩ _ ⟨_⟩ x σ⟩ _ _
 simp(disch:=omega)only[go_sem]
 refine Qm false [10000000] (ajK l hl i h hi n hn.2) (by simp(disch:=omega)only[go_sem]) (by simp(disch:=omega)only[go_sem]) rfl (qS (z:=0) (cs:=[.sl l.length (qj l),.v (.int .i64 i),.v (.int .i64 h)]) (by simp(disch:=omega)only[go_sem]) (by simp(disch:=omega)only[go_sem])) (by intro n hn;exact⟨_,List.mem_cons_self ..,by rw[List.mem_singleton.1 hn];rfl⟩) ?_
 rintro r hs bs ⟨⟨L,hL,hok,rfl,rfl⟩,i1,h1,hi1,rfl⟩-
 refine⟨by simp[qN];simp(disch:=omega)only[go_sem],?_⟩
 simp(disch:=omega)only[go_sem]
 have h16:(L.map ExV.dy).length=n*n:=by rw[List.length_map];exact hL
 have h200:∀d∈L.map ExV.dy,d.xs.length≤200:=fun d hd=>by
  obtain⟨x,hx,rfl⟩:=List.mem_map.1 hd
  have:=(jq (hok x hx)).2.2.1
  show(lim x.m).length≤200
  omega
 rw[aJa]
 generalize L.map ExV.dy=M at*
 refine qu (qW l hl i1 h1 hi1 12 (by omega)) ?_
 rintro r i2 h2 hi2 ⟨b,rfl⟩
 simp(disch:=omega)only[go_sem]
 cases b
 ·simp(disch:=omega)only[go_sem]
  refine qg [(0,100000000)] [.own 3 (ql DyV.cs M)] [.own 0 [.sl l.length (qj l),.v (.int .i64 i2),.v (.int .i64 h2)]] [.ag [.v (.int .i64 n),.rf 0 (0*3) (n*n)]] rfl (by simp(disch:=omega)only[go_sem]) (by simp(disch:=omega)only[go_sem]) (by simp) (by simp) ⟨⟨_,M,0,n*n,by omega,by omega,h16,h200,rfl,rfl⟩,_,_,hi2,rfl⟩
 ·simp(disch:=omega)only[go_sem]
  refine qu (qJ l hl i2 h2 hi2 3 (by omega)) ?_
  rintro r i3 h3 hi3 ⟨q,hq,rfl⟩
  simp(disch:=omega)only[go_sem]
  by_cases c0:q=0
  ·simp(disch:=omega)only[go_sem,c0]
   refine jP (zz l hl i3 h3 hi3 [0,(n:Int)+1, -1] (by simp) (by simp)) ?_
   rintro r i4 h4 hi4 ⟨y,hy,rfl⟩
   clear hy
   simp(disch:=omega)only[go_sem]
   refine qg [(0,100000000)] [.own 3 (ql DyV.cs M)] [.own 0 [.sl l.length (qj l),.v (.int .i64 i4),.v (.int .i64 h4)]] [.ag [.v (.int .i64 y),.rf 0 (0*3) (n*n)]] rfl (by simp(disch:=omega)only[go_sem]) (by simp(disch:=omega)only[go_sem]) (by simp) (by simp) ⟨⟨_,M,0,n*n,by omega,by omega,h16,h200,rfl,rfl⟩,_,_,hi4,rfl⟩
  by_cases c1:q=1
  ·simp(disch:=omega)only[go_sem,c0,c1]
   have h1n:1≤n*n:=Nat.mul_le_mul hn.1 hn.1
   refine⟨by omega,?_⟩
   rw[show(((n*n:Nat):Int)-1).toNat=n*n-1 by omega]
   refine qg [(0,100000000)] [.own 3 (ql DyV.cs M)] [.own 0 [.sl l.length (qj l),.v (.int .i64 i3),.v (.int .i64 h3)]] [.ag [.v (.int .i64 n),.rf 0 (1*3) (n*n-1)]] rfl (by simp(disch:=omega)only[go_sem]) (by simp(disch:=omega)only[go_sem]) (by simp) (by simp) ⟨⟨_,M,1,n*n-1,by omega,by omega,h16,h200,rfl,rfl⟩,_,_,hi3,rfl⟩
  simp(disch:=omega)only[go_sem,c0,c1]
  refine qs rfl [⟨0,[],[]⟩,⟨1,[],[]⟩,⟨2,[1],[]⟩,⟨3,[1],[]⟩,⟨4,[],[]⟩,⟨5,[],[]⟩] (by kernel_rfl) ?_
  simp(disch:=omega)only[go_sem]
  have h1n:1≤n*n:=Nat.mul_le_mul hn.1 hn.1
  obtain⟨d0,M,rfl⟩:∃d0 M',M=d0::M':=by
   cases M with
   |nil=>simp at h16;omega
   |cons d M=>exact⟨d,M,rfl⟩
  refine qu (JT l hl i3 h3 hi3) ?_
  rintro r i4 h4 hi4 ⟨⟨S,xs,E⟩,hd,hr⟩
  obtain rfl:r=.ag [.v (.bool S),.sl xs.length (qc xs),.v (.int .i64 E)]:=hr
  dsimp only at hd
  simp(disch:=omega)only[go_sem,aCL]
  refine⟨by omega,by omega,qg [(0,100000000)] [.own 3 (ql DyV.cs (⟨S,xs,E⟩::M))] [.own 0 [.sl l.length (qj l),.v (.int .i64 i4),.v (.int .i64 h4)]] [.ag [.v (.int .i64 n),.rf 0 (0*3) (n*n)]] rfl (by simp(disch:=omega)only[go_sem]) (by simp(disch:=omega)only[go_sem]) (by simp) (by simp) ⟨⟨_,_,0,n*n,by simp at h16 ⊢;omega,by omega,by simp at h16 ⊢;omega,(fun d hd'=>?_),rfl,rfl⟩,_,_,hi4,rfl⟩⟩
  rcases List.mem_cons.1 hd' with rfl|hd'
  ·exact hd
  ·exact h200 d (List.mem_cons_of_mem _ hd')
theorem ajL(n:Nat)(hn:1≤n∧n≤4):Con Tryz.prog 76 false [.pt 10000000 0,.v (.int .i64 n)] [.own 0 [.sl l.length (qj l),.v (.int .i64 i),.v (.int .i64 h)]] (YM l aZm):=by
 have hq:=ye hn.2
 refine Con.cur l i h (Q:=fun r hs=>(∀ob∈hs,ob.men fun _=>False)∧aZm (qF (rhp hs []) 6 r)) ((aed l hl i h hi n hn).mono ?_) fun _ _ h=>h
 rintro r hs bs ⟨⟨k,M,o,m,h1, -,h2,h3,rfl,rfl⟩,hc⟩
 exact⟨⟨fun ob ho=>by rw[List.mem_singleton.1 ho];exact of_eq_true adX,aKv h1 (by omega) h3⟩,hc⟩
end
end Go.Ab
namespace Go.Ab
open Go Go.Proofs
/-! ### Minors and determinants-/
def mnC(n:Nat)(l:List ExV)(r c i:Nat):Nat→List ExV
 |0=>[]
 |j+1=>if i≠r∧j≠c then mnC n l r c i j++[l.getD (i*n+j) ex0]else mnC n l r c i j
def mnR(n:Nat)(l:List ExV)(r c:Nat):Nat→List ExV
 |0=>[]
 |i+1=>mnR n l r c i++mnC n l r c i n
def ExV.sgn(x:ExV)(k:Nat):ExV:=if k % 2=1 then x.neg else x
def bbK:Nat→List ExV→ExV
 |0,_=>ex1
 |n+1,l=>(List.range (n+1)).foldl (fun s j=>s.plus (((l.getD (0*(n+1)+j) ex0).times (bbK n (mnR (n+1) l 0 j (n+1)))).sgn j)) ex0
end Go.Ab
namespace Go.Ab
open Go Go.Proofs
def bd6(x y:ExV):ExV:=if x.val 3000≤y.val 3000 then x else y
def bd0(x y:ExV):ExV:=if y.val 3000≤x.val 3000 then x else y
section
variable (l:List UInt8)(hl:l.length≤9223372036854775807)(i h:Int)(hi:0≤i∧i≤l.length)
include hl hi
end
end Go.Ab
namespace Go.Ab
open Go Go.Proofs
/-! ### Rounding down and up-/
def rnF(s:Bool)(a b:Nat)(low mode:Int):FlV:=⟨flK s mode (rq s a b mode) low,s,ba6 s mode (rq s a b mode) low,ba7 s mode (rq s a b mode) low⟩
def upQ(a b:Nat):Nat:=if a % b=0 then a/b else a/b+1
def isN(F:FlV):Bool:=decide (F.k=0)||decide (F.k=1)
def rqB(s:Bool)(a b:Nat)(low mode:Int):Prop:=rq s a b mode≠0∧1024<(bl (rq s a b mode):Int)+low
end Go.Ab
namespace Go.Ab
def stk(A B:Nat):Nat:=2*(A/B)+(if A % B=0 then 0 else 1)
end Go.Ab
namespace Go.Ab
def rtB(a:Nat):Nat→Nat
 |0=>0
 |n+1=>if(n+1)*(n+1)≤a then n+1 else rtB a n
def rt(a:Nat):Nat:=rtB a a
end Go.Ab
namespace Go.Ab
open Go Go.Proofs
end Go.Ab
namespace Go.Ab
open Go Go.Proofs
/-! ### A root,rounded-/
def stR(A S:Nat):Nat:=rt (A/S)*4+(if rt (A/S)*rt (A/S)*S=A then 0 else if A*4<(2*rt (A/S)+1)*(2*rt (A/S)+1)*S then 1 else if A*4=(2*rt (A/S)+1)*(2*rt (A/S)+1)*S then 2 else 3)
end Go.Ab
namespace Go.Ab
open Go Go.Proofs
def sqT(m:Nat)(e:Int):Int:=((bl m:Int)+e+1)/2
def sqL(m:Nat)(e:Int):Int:=ZT (sqT m e)
def sqA(m:Nat)(e low:Int):Nat:=stR (ovA m (e-2*low)) (2^(-(e-2*low)).toNat)
def sqV(k:Int)(s:Bool)(m e mode:Int):FlV:=
 if k=3∨k=0 then⟨k,s,m,e⟩else if s=true then⟨3,false,0,0⟩else if k=2 then⟨k,s,m,e⟩else
  ⟨flK false mode (rq false (sqA m.toNat e (sqL m.toNat e)) 4 mode) (sqL m.toNat e),false,ba6 false mode (rq false (sqA m.toNat e (sqL m.toNat e)) 4 mode) (sqL m.toNat e),ba7 false mode (rq false (sqA m.toNat e (sqL m.toNat e)) 4 mode) (sqL m.toNat e)⟩
def sqG(k:Int)(s:Bool)(m e mode:Int):Int:=
 if k=3∨k=0 then 0 else if s=true then 16 else if k=2 then 0 else
  bbJ (sqT m.toNat e) (decide (sqA m.toNat e (sqL m.toNat e) % 4=0)) (rq false (sqA m.toNat e (sqL m.toNat e)) 4 mode) (sqL m.toNat e)
end Go.Ab
namespace Go.Ab
open Go Go.Proofs
def rtE(x:ExV)(low md:Int):ExV:=⟨false,rq false (sqA x.m x.e low) 4 md,low⟩
def beG(n:Int):Bool:=decide (-3000≤n)&&decide (n≤3000)
end Go.Ab
namespace Go.Ab
open Go Go.Proofs
end Go.Ab
namespace Go.Ab
open Go Go.Proofs
def rkI:Bool→Nat
 |false=>0
 |true=>1
def rkH(x:ExV):Bool→List (Nat×Ob)
 |false=>[(3,.own 1 [.v (.slice none 0 0)])]
 |true=>[(3,.own 1 [.rf 5 0 1]),(5,.own 3 [.v (.bool x.s),.sl (lim x.m).length (qc (lim x.m)),.v (.int .i64 x.e)])]
def ex5:ExV:=⟨false,5,0⟩
end Go.Ab
namespace Go.Ab
open Go Go.Proofs
def bd7(M:List DyV):Prop:=M.length≤16∧∀d∈M,d.xs.length≤200
end Go.Ab
namespace Go.Ab
open Go Go.Proofs
theorem yn{n:Nat}:(gId n).length=n*n:=zn
theorem yo{n:Nat}(h1:1≤n)(h4:n≤4):(gId n).all ExV.fit=true∧(gId n).map ExV.can=gId n:=by
 rcases(show n=1∨n=2∨n=3∨n=4 by omega)with rfl|rfl|rfl|rfl<;>decide+kernel
theorem apG{n:Nat}(h1:1≤n)(h4:n≤4):matV n (gId n):=by
 have:=(K9 (l:=gId n) h1 h4 yn (yo h1 h4).1).2.2
 rw[(yo h1 h4).2]at this
 exact this
theorem ajZ(n:Nat)(h1:1≤n)(h4:n≤4):Con Tryz.prog 18 false [.v (.int .i64 n)] [] (isA (.tu [.ag [.v (.int .i64 (n)),.sl (gId n).length (ql ExV.cs (gId n))],.v (.bool true)])):=by
 refine Con.frzA ?_
 have hl:(gId n).length=n*n:=yn
 have cw:=zJ n 1 4
 rw[decide_eq_true (show(1:Int)≤n by omega),decide_eq_true (show(n:Int)≤4 by omega)]at cw
 have cm:=Qj n (gId n) (by have:=ye h4;omega) (apG h1 h4).bd4
 obtain⟨e1,e2, -⟩:=K9 (l:=gId n) h1 h4 yn (yo h1 h4).1
 rw[e1,e2,(yo h1 h4).1,(yo h1 h4).2]at cm
 have ci:=aek n h4
 generalize gId n=y at*
 refine Con.of_w (rs:=[.cell 2 25,.tmp 3]) Tryz.func18 rfl Tryz.ntmps18 rfl ?_
 simp(disch:=omega)only[go_sem]
 refine qm (cw) ?_
 simp(disch:=omega)only[go_sem]
 refine qa (ci) ?_
 simp(disch:=omega)only[go_sem]
 refine qa (cm) ?_
 simp(disch:=omega)only[go_sem]
 exact qk
theorem ad8(n:Nat)(L L':List ExV)(h:matV n L)(h':matV n L'):Con Tryz.prog 21 true [.ag [.v (.int .i64 (n)),.sl (L).length (ql ExV.cs (L))],.ag [.v (.int .i64 (n)),.sl (L').length (ql ExV.cs (L'))]] [] (isA (.v (.bool (decide (L=L'))))):=by
 have hll:L'.length=L.length:=by rw[h.len,h'.len]
 have h16:=h.l16
 refine Con.of_w (rs:=[.tmp 4]) Tryz.func21 rfl Tryz.ntmps21 rfl ?_
 simp(disch:=omega)only[go_sem]
 simp(disch:=omega)only[go_sem,hll]
 refine qi (fun i:Nat=>[(2,.pt 1 0),(3,.pt 2 0),(5,.v (.int .i64 i))]) (fun _=>[(1,.own 0 [.v (.int .i64 n),.sl L.length (ql ExV.cs L)]),(2,.own 0 [.v (.int .i64 n),.sl L.length (ql ExV.cs L')])]) (fun i=>i≤L.length∧∀j,j<i→L.getD j ex0=L'.getD j ex0) (fun i=>L.length-i) 0 ⟨by omega,fun j hj=>by omega⟩
  (Le.lst [(1,40000000),(2,50000000)] _ _ rfl (by simp(disch:=omega)only[go_sem]) (by simp(disch:=omega)only[go_sem])) ?_
 rintro i ⟨hi,hp⟩
 simp(disch:=omega)only[go_sem]
 refine qe (fun h1=>?_) (fun h1=>?_)
 ·have hc1:=zI (l:=L) (i:=i) (by omega)
  have hc2:=zI (l:=L') (i:=i) (by omega)
  have o1:=h.ok (L.getD i ex0) (by rw[List.getD_eq_getElem?_getD,List.getElem?_eq_getElem (by omega)];exact List.getElem_mem _)
  have o2:=h'.ok (L'.getD i ex0) (by rw[List.getD_eq_getElem?_getD,List.getElem?_eq_getElem (by omega)];exact List.getElem_mem _)
  have cs:=aqi _ _ o1 o2
  have hne:L.getD i ex0≠L'.getD i ex0→decide (L=L')=false:=fun hn=>decide_eq_false fun e=>hn (by rw[e])
  have hnx:L.getD i ex0=L'.getD i ex0→∀j,j<i+1→L.getD j ex0=L'.getD j ex0:=fun e j hj=>by
   rcases(by omega:j<i∨j=i)with h'|rfl
   ·exact hp j h'
   ·exact e
  generalize L.getD i ex0=x at*
  generalize L'.getD i ex0=y at*
  simp(disch:=omega)only[go_sem,h1]
  refine qs rfl [⟨0,[],[]⟩,⟨1,[],[]⟩,⟨2,[1],[]⟩,⟨3,[],[]⟩,⟨4,[],[]⟩,⟨5,[1,4],[]⟩,⟨6,[1,4],[]⟩,⟨7,[1,4,6],[]⟩,⟨8,[1,4],[]⟩,⟨9,[1,4],[]⟩,⟨10,[],[]⟩,⟨11,[],[]⟩] (by kernel_rfl) ?_
  simp(disch:=omega)only[go_sem,hc1,hc2]
  refine⟨by omega,by omega,by omega,by omega,qm cs ?_⟩
  simp(disch:=omega)only[go_sem]
  by_cases hxy:x=y
  ·simp(disch:=omega)only[go_sem,decide_eq_true hxy]
   exact qb (i+1) [] ⟨by omega,hnx hxy⟩ (by show L.length-(i+1)<L.length-i;omega) rfl (by simp(disch:=omega)only[go_sem];try omega) (by simp(disch:=omega)only[go_sem])
  ·rw[hne hxy]
   simp(disch:=omega)only[go_sem,decide_eq_false hxy]
   exact qx
 ·have he:L=L':=by
   apply List.ext_getElem hll.symm
   intro j h1 h2
   have:=hp j (by omega)
   rw[List.getD_eq_getElem?_getD,List.getElem?_eq_getElem h1,List.getD_eq_getElem?_getD,List.getElem?_eq_getElem h2]at this
   exact this
  rw[decide_eq_true he]
  simp(disch:=omega)only[go_sem,h1]
  exact qx
theorem aKu{K n:Nat}{X Y:List ExV}(hK:3000≤K)(hX:matV n X)(hY:matV n Y)(h:∀i j,i<n→j<n→mv K X n i j=mv K Y n i j):X=Y:=by
 apply List.ext_getElem (by rw[hX.len,hY.len])
 intro t h1 h2
 have hn:0<n:=hX.n1
 have ht:t<n*n:=by rw[←hX.len];exact h1
 have hj:=Nat.mod_lt t hn
 have hi:t/n<n:=(Nat.div_lt_iff_lt_mul hn).2 ht
 have e:t/n*n+t % n=t:=by rw[Nat.mul_comm];exact Nat.div_add_mod t n
 have:=h (t/n) (t % n) hi hj
 unfold mv at this
 rw[e,List.getD_eq_getElem?_getD,List.getElem?_eq_getElem h1,List.getD_eq_getElem?_getD,List.getElem?_eq_getElem h2]at this
 have a:=hX.ok _ (List.getElem_mem h1)
 have b:=hY.ok _ (List.getElem_mem h2)
 exact aOG (K:=K) a b (by have:=(jq a).1;omega) (by have:=(jq b).1;omega) this
theorem aKS(K i j:Nat):(idF i j).val K=if i=j then 2^K else 0:=by
 unfold idF
 by_cases h:i=j
 ·rw[if_pos h,if_pos h]
  show dv K false 1 0=_
  unfold dv sv
  rw[if_neg (by simp),show(0+(K:Int)).toNat=K by omega];simp
 ·rw[if_neg h,if_neg h];exact YI K
theorem aEW{K n i j:Nat}(hi:i<n)(hj:j<n):mv K (gId n) n i j=if i=j then 2^K else 0:=by
 unfold mv gId
 rw[apD hi hj,aKS]
end Go.Ab
namespace Go.Ab
open Go Go.Proofs
/-! ### Matrices that were told,or not-/
def optM(n N:Nat)(T:List ExV):Prop:=(N=n∧matV n T)∨(N=0∧T=[])
theorem Yk{n:Nat}{l:List ExV}(h1:1≤n)(h4:n≤4)(hl:l.length=n*n):optM n (gN n l) (gT l):=by
 cases hf:l.all ExV.fit
 ·exact .inr ⟨if_neg (by rw[hf];simp),if_neg (by rw[hf];simp)⟩
 ·obtain⟨e1,e2,e3⟩:=K9 (l:=l) h1 h4 hl hf
  exact .inl ⟨e1,by rw[e2];exact e3⟩
def bbB(M:List DyV):Prop:=M.length≤16∧∀d∈M,d.xs.length≤200
theorem matV.lens{n:Nat}{L:List ExV}(h:matV n L):bbB (L.map ExV.dyv):=⟨by rw[List.length_map];exact h.l16,fun d hd=>by
 obtain⟨x,hx,rfl⟩:=List.mem_map.1 hd
 have:=(jq (h.ok x hx)).2.2.1
 show(lim x.m).length≤200
 omega⟩
theorem optM.lens{n N:Nat}{T:List ExV}(h:optM n N T):bbB (T.map ExV.dyv):=by
 rcases h with⟨-,h⟩|⟨-,rfl⟩
 ·exact h.lens
 ·exact⟨by simp,by simp⟩
theorem aBO(M:List DyV):K0 ((0:Nat):Int) M=false:=by unfold K0;simp
theorem aes(n N N':Nat)(T T':List ExV)(h1:1≤n)(h4:n≤4)(h:optM n N T)(h':optM n N' T'):Con Tryz.prog 20 false [.ag [.v (.int .i64 (N)),.sl (T).length (ql ExV.cs (T))],.ag [.v (.int .i64 (N')),.sl (T').length (ql ExV.cs (T'))]] []
  (fun r hs bs=>hs=[]∧bs=[]∧∃(N2:Nat) (T2:List ExV) (b:Bool),optM n N2 T2∧(b=true→(N=n∧matV n T)∧(N'=n∧matV n T')∧(jh n T T').all ExV.fit=true∧(N2=n∧matV n T2)∧T2=(jh n T T').map ExV.can)∧r=.tu [.ag [.v (.int .i64 (N2)),.sl (T2).length (ql ExV.cs (T2))],.v (.bool b)]):=by
 have l1:=h.lens
 have l2:=h'.lens
 have bad:ary N (T.map ExV.dyv) N' (T'.map ExV.dyv)=false→Con Tryz.prog 20 false [.ag [.v (.int .i64 (N)),.sl (T).length (ql ExV.cs (T))],.ag [.v (.int .i64 (N')),.sl (T').length (ql ExV.cs (T'))]] [] (isA (.tu [.ag [.v (.int .i64 0),.sl 0 []],.v (.bool false)])):=fun hb=>by
  have c:=Y2 N N' (T.map ExV.dyv) (T'.map ExV.dyv) l1.1 l1.2 l2.1 l2.2 hb
  rw[jW,jW,List.length_map,List.length_map]at c
  exact c
 have fin:∀{r:AV} {hs bs:List Ob},isA (.tu [.ag [.v (.int .i64 0),.sl 0 []],.v (.bool false)]) r hs bs→hs=[]∧bs=[]∧∃(N2:Nat) (T2:List ExV) (b:Bool),optM n N2 T2∧(b=true→(N=n∧matV n T)∧(N'=n∧matV n T')∧(jh n T T').all ExV.fit=true∧(N2=n∧matV n T2)∧T2=(jh n T T').map ExV.can)∧r=.tu [.ag [.v (.int .i64 (N2)),.sl (T2).length (ql ExV.cs (T2))],.v (.bool b)]:=
  fun⟨a,b,c⟩=>⟨b,c,0,[],false,.inr ⟨rfl,rfl⟩,(fun h=>by cases h),a⟩
 rcases h with⟨rfl,hT⟩|⟨rfl,rfl⟩
 ·rcases h' with⟨rfl,hT'⟩|⟨rfl,rfl⟩
  ·refine(aer _ T T' hT hT').mono fun r hs bs ⟨a,b,c⟩=>⟨b,c,_,_,_,Yk (l:=jh _ T T') h1 h4 zn,fun hf=>?_,a⟩
   obtain⟨e1,e2,e3⟩:=K9 (l:=jh _ T T') h1 h4 zn hf
   exact⟨⟨rfl,hT⟩,⟨rfl,hT'⟩,hf,⟨e1,by rw[e2];exact e3⟩,e2⟩
  ·exact(bad (by unfold ary;rw[aBO,Bool.false_and,Bool.and_false])).mono fun r hs bs h=>fin h
 ·exact(bad (by unfold ary;rw[aBO,Bool.false_and])).mono fun r hs bs h=>fin h
theorem aeq(n N N':Nat)(T T':List ExV)(h1:1≤n)(h4:n≤4)(h:optM n N T)(h':optM n N' T'):Con Tryz.prog 17 false [.ag [.v (.int .i64 (N)),.sl (T).length (ql ExV.cs (T))],.ag [.v (.int .i64 (N')),.sl (T').length (ql ExV.cs (T'))]] []
  (fun r hs bs=>hs=[]∧bs=[]∧∃(N2:Nat) (T2:List ExV) (b:Bool),optM n N2 T2∧(b=true→(N=n∧matV n T)∧(N'=n∧matV n T')∧(zq n T T').all ExV.fit=true∧(N2=n∧matV n T2)∧T2=(zq n T T').map ExV.can)∧r=.tu [.ag [.v (.int .i64 (N2)),.sl (T2).length (ql ExV.cs (T2))],.v (.bool b)]):=by
 have l1:=h.lens
 have l2:=h'.lens
 have bad:ary N (T.map ExV.dyv) N' (T'.map ExV.dyv)=false→Con Tryz.prog 17 false [.ag [.v (.int .i64 (N)),.sl (T).length (ql ExV.cs (T))],.ag [.v (.int .i64 (N')),.sl (T').length (ql ExV.cs (T'))]] [] (isA (.tu [.ag [.v (.int .i64 0),.sl 0 []],.v (.bool false)])):=fun hb=>by
  have c:=Y1 N N' (T.map ExV.dyv) (T'.map ExV.dyv) l1.1 l1.2 l2.1 l2.2 hb
  rw[jW,jW,List.length_map,List.length_map]at c
  exact c
 have fin:∀{r:AV} {hs bs:List Ob},isA (.tu [.ag [.v (.int .i64 0),.sl 0 []],.v (.bool false)]) r hs bs→hs=[]∧bs=[]∧∃(N2:Nat) (T2:List ExV) (b:Bool),optM n N2 T2∧(b=true→(N=n∧matV n T)∧(N'=n∧matV n T')∧(zq n T T').all ExV.fit=true∧(N2=n∧matV n T2)∧T2=(zq n T T').map ExV.can)∧r=.tu [.ag [.v (.int .i64 (N2)),.sl (T2).length (ql ExV.cs (T2))],.v (.bool b)]:=
  fun⟨a,b,c⟩=>⟨b,c,0,[],false,.inr ⟨rfl,rfl⟩,(fun h=>by cases h),a⟩
 rcases h with⟨rfl,hT⟩|⟨rfl,rfl⟩
 ·rcases h' with⟨rfl,hT'⟩|⟨rfl,rfl⟩
  ·refine(aep _ T T' hT hT').mono fun r hs bs ⟨a,b,c⟩=>⟨b,c,_,_,_,Yk (l:=zq _ T T') h1 h4 zn,fun hf=>?_,a⟩
   obtain⟨e1,e2,e3⟩:=K9 (l:=zq _ T T') h1 h4 zn hf
   exact⟨⟨rfl,hT⟩,⟨rfl,hT'⟩,hf,⟨e1,by rw[e2];exact e3⟩,e2⟩
  ·exact(bad (by unfold ary;rw[aBO,Bool.false_and,Bool.and_false])).mono fun r hs bs h=>fin h
 ·exact(bad (by unfold ary;rw[aBO,Bool.false_and])).mono fun r hs bs h=>fin h
end Go.Ab
namespace Go.Ab
/-! ### Determinants of integers-/
def sgI(k:Nat):Int:=if k % 2=1 then-1 else 1
def skp(r i:Nat):Nat:=if i<r then i else i+1
def ake(A:Nat→Nat→Int)(r c:Nat):Nat→Nat→Int:=fun i j=>A (skp r i) (skp c j)
def ji:Nat→(Nat→Nat→Int)→Int
 |0,_=>1
 |n+1,A=>qA (fun j=>sgI j*(A 0 j*ji n (ake A 0 j))) (n+1)
theorem arx(A:Nat→Nat→Int):ji 1 A=A 0 0:=by
 simp[ji,qA,sgI]
theorem aki(A:Nat→Nat→Int):ji 2 A=A 0 0*A 1 1-A 0 1*A 1 0:=by
 simp[ji,qA,sgI,ake,skp];omega
theorem akh(A:Nat→Nat→Int):ji 3 A=A 0 0*(A 1 1*A 2 2-A 1 2*A 2 1)-A 0 1*(A 1 0*A 2 2-A 1 2*A 2 0)+A 0 2*(A 1 0*A 2 1-A 1 1*A 2 0):=by
 rw[ji]
 simp only[aki,qA,sgI,ake,skp]
 simp
 omega
theorem aE6(A:Nat→Nat→Int):ji 4 A=(A 0 0*A 1 1-A 0 1*A 1 0)*(A 2 2*A 3 3-A 2 3*A 3 2)-(A 0 0*A 1 2-A 0 2*A 1 0)*(A 2 1*A 3 3-A 2 3*A 3 1)
  +(A 0 0*A 1 3-A 0 3*A 1 0)*(A 2 1*A 3 2-A 2 2*A 3 1)+(A 0 1*A 1 2-A 0 2*A 1 1)*(A 2 0*A 3 3-A 2 3*A 3 0)
  -(A 0 1*A 1 3-A 0 3*A 1 1)*(A 2 0*A 3 2-A 2 2*A 3 0)+(A 0 2*A 1 3-A 0 3*A 1 2)*(A 2 0*A 3 1-A 2 1*A 3 0):=by
 rw[ji]
 simp only[akh,qA,sgI,ake,skp]
 simp
 grind
end Go.Ab
namespace Go.Ab
theorem aCO{n:Nat}(hn:n≤4)(A:Nat→Nat→Int):ji n (fun i j=>A j i)=ji n A:=by
 rcases(show n=0∨n=1∨n=2∨n=3∨n=4 by omega)with rfl|rfl|rfl|rfl|rfl
 ·rfl
 ·rw[arx,arx]
 ·rw[aki,aki];grind
 ·rw[akh,akh];grind
 ·rw[aE6,aE6];grind
theorem yt:∀{n:Nat} {A B:Nat→Nat→Int},(∀i j,i<n→j<n→A i j=B i j)→ji n A=ji n B
 |0,_,_,_=>rfl
 |n+1,A,B,h=>by
  rw[ji,ji]
  refine qB fun j hj=>?_
  rw[h 0 j (by omega) hj,yt (n:=n) (A:=ake A 0 j) (B:=ake B 0 j) fun i k hi hk=>?_]
  unfold ake skp
  exact h _ _ (by split<;>omega) (by split<;>omega)
def m2(A:Nat→Nat→Int)(r s c d:Nat):Int:=A r c*A s d-A r d*A s c
theorem aaj(A:Nat→Nat→Int):ji 4 A=m2 A 0 1 0 1*m2 A 2 3 2 3-m2 A 0 1 0 2*m2 A 2 3 1 3+m2 A 0 1 0 3*m2 A 2 3 1 2+m2 A 0 1 1 2*m2 A 2 3 0 3-m2 A 0 1 1 3*m2 A 2 3 0 2+m2 A 0 1 2 3*m2 A 2 3 0 1:=aE6 A
def jl(n:Nat)(A B:Nat→Nat→Int):Nat→Nat→Int:=fun i j=>qA (fun t=>A i t*B t j) n
theorem bbC(A B:Nat→Nat→Int)(i j:Nat):jl 4 A B i j=A i 0*B 0 j+A i 1*B 1 j+A i 2*B 2 j+A i 3*B 3 j:=by
 simp[jl,qA]
theorem bbD(A B:Nat→Nat→Int)(i j:Nat):jl 3 A B i j=A i 0*B 0 j+A i 1*B 1 j+A i 2*B 2 j:=by
 simp[jl,qA]
theorem bbE(A B:Nat→Nat→Int)(i j:Nat):jl 2 A B i j=A i 0*B 0 j+A i 1*B 1 j:=by
 simp[jl,qA]
theorem bbF(A B:Nat→Nat→Int)(i j:Nat):jl 1 A B i j=A i 0*B 0 j:=by
 simp[jl,qA]
theorem aO2(A B:Nat→Nat→Int)(r s c d:Nat):m2 (jl 4 A B) r s c d=m2 A r s 0 1*m2 B 0 1 c d+m2 A r s 0 2*m2 B 0 2 c d+m2 A r s 0 3*m2 B 0 3 c d+m2 A r s 1 2*m2 B 1 2 c d+m2 A r s 1 3*m2 B 1 3 c d+m2 A r s 2 3*m2 B 2 3 c d:=by
 simp only[m2,bbC]
 grind
def q4(B:Nat→Nat→Int)(p q r s:Nat):Int:=m2 B p q 0 1*m2 B r s 2 3-m2 B p q 0 2*m2 B r s 1 3+m2 B p q 0 3*m2 B r s 1 2+m2 B p q 1 2*m2 B r s 0 3-m2 B p q 1 3*m2 B r s 0 2+m2 B p q 2 3*m2 B r s 0 1
theorem y6(B:Nat→Nat→Int)(p q s:Nat):q4 B p q p s=0:=by unfold q4 m2;grind
theorem aBd(B:Nat→Nat→Int)(p q r:Nat):q4 B p q r p=0:=by unfold q4 m2;grind
theorem aBc(B:Nat→Nat→Int)(p q s:Nat):q4 B p q q s=0:=by unfold q4 m2;grind
theorem KM(B:Nat→Nat→Int)(p q r:Nat):q4 B p q r q=0:=by unfold q4 m2;grind
theorem bdQ(B:Nat→Nat→Int):q4 B 0 1 2 3=ji 4 B:=(aaj B).symm
theorem bdP(B:Nat→Nat→Int):q4 B 0 2 1 3= -ji 4 B:=by rw[aaj];unfold q4 m2;grind
theorem bdO(B:Nat→Nat→Int):q4 B 0 3 1 2=ji 4 B:=by rw[aaj];unfold q4 m2;grind
theorem bdN(B:Nat→Nat→Int):q4 B 1 2 0 3=ji 4 B:=by rw[aaj];unfold q4 m2;grind
theorem bdM(B:Nat→Nat→Int):q4 B 1 3 0 2= -ji 4 B:=by rw[aaj];unfold q4 m2;grind
theorem bdL(B:Nat→Nat→Int):q4 B 2 3 0 1=ji 4 B:=by rw[aaj];unfold q4 m2;grind
theorem ap9(A B:Nat→Nat→Int):ji 4 (jl 4 A B)=m2 A 0 1 0 1*m2 A 2 3 0 1*q4 B 0 1 0 1+m2 A 0 1 0 1*m2 A 2 3 0 2*q4 B 0 1 0 2+m2 A 0 1 0 1*m2 A 2 3 0 3*q4 B 0 1 0 3+m2 A 0 1 0 1*m2 A 2 3 1 2*q4 B 0 1 1 2+m2 A 0 1 0 1*m2 A 2 3 1 3*q4 B 0 1 1 3+m2 A 0 1 0 1*m2 A 2 3 2 3*q4 B 0 1 2 3+m2 A 0 1 0 2*m2 A 2 3 0 1*q4 B 0 2 0 1+m2 A 0 1 0 2*m2 A 2 3 0 2*q4 B 0 2 0 2+m2 A 0 1 0 2*m2 A 2 3 0 3*q4 B 0 2 0 3+m2 A 0 1 0 2*m2 A 2 3 1 2*q4 B 0 2 1 2+m2 A 0 1 0 2*m2 A 2 3 1 3*q4 B 0 2 1 3+m2 A 0 1 0 2*m2 A 2 3 2 3*q4 B 0 2 2 3+m2 A 0 1 0 3*m2 A 2 3 0 1*q4 B 0 3 0 1+m2 A 0 1 0 3*m2 A 2 3 0 2*q4 B 0 3 0 2+m2 A 0 1 0 3*m2 A 2 3 0 3*q4 B 0 3 0 3+m2 A 0 1 0 3*m2 A 2 3 1 2*q4 B 0 3 1 2+m2 A 0 1 0 3*m2 A 2 3 1 3*q4 B 0 3 1 3+m2 A 0 1 0 3*m2 A 2 3 2 3*q4 B 0 3 2 3+m2 A 0 1 1 2*m2 A 2 3 0 1*q4 B 1 2 0 1+m2 A 0 1 1 2*m2 A 2 3 0 2*q4 B 1 2 0 2+m2 A 0 1 1 2*m2 A 2 3 0 3*q4 B 1 2 0 3+m2 A 0 1 1 2*m2 A 2 3 1 2*q4 B 1 2 1 2+m2 A 0 1 1 2*m2 A 2 3 1 3*q4 B 1 2 1 3+m2 A 0 1 1 2*m2 A 2 3 2 3*q4 B 1 2 2 3+m2 A 0 1 1 3*m2 A 2 3 0 1*q4 B 1 3 0 1+m2 A 0 1 1 3*m2 A 2 3 0 2*q4 B 1 3 0 2+m2 A 0 1 1 3*m2 A 2 3 0 3*q4 B 1 3 0 3+m2 A 0 1 1 3*m2 A 2 3 1 2*q4 B 1 3 1 2+m2 A 0 1 1 3*m2 A 2 3 1 3*q4 B 1 3 1 3+m2 A 0 1 1 3*m2 A 2 3 2 3*q4 B 1 3 2 3+m2 A 0 1 2 3*m2 A 2 3 0 1*q4 B 2 3 0 1+m2 A 0 1 2 3*m2 A 2 3 0 2*q4 B 2 3 0 2+m2 A 0 1 2 3*m2 A 2 3 0 3*q4 B 2 3 0 3+m2 A 0 1 2 3*m2 A 2 3 1 2*q4 B 2 3 1 2+m2 A 0 1 2 3*m2 A 2 3 1 3*q4 B 2 3 1 3+m2 A 0 1 2 3*m2 A 2 3 2 3*q4 B 2 3 2 3:=by
 rw[aaj]
 simp only[aO2]
 simp only[q4]
 grind
theorem aCQ(A B:Nat→Nat→Int):ji 4 (jl 4 A B)=ji 4 A*ji 4 B:=by
 rw[ap9]
 rw[y6 B 0 1 1,y6 B 0 1 2,y6 B 0 1 3,aBc B 0 1 2,aBc B 0 1 3,y6 B 0 2 1,y6 B 0 2 2,y6 B 0 2 3,KM B 0 2 1,aBc B 0 2 3,y6 B 0 3 1,y6 B 0 3 2,y6 B 0 3 3,KM B 0 3 1,KM B 0 3 2,aBd B 1 2 0,KM B 1 2 0,y6 B 1 2 2,y6 B 1 2 3,aBc B 1 2 3,aBd B 1 3 0,KM B 1 3 0,y6 B 1 3 2,y6 B 1 3 3,KM B 1 3 2,aBd B 2 3 0,KM B 2 3 0,aBd B 2 3 1,KM B 2 3 1,y6 B 2 3 3]
 rw[bdQ,bdP,bdO,bdN,bdM,bdL,aaj A]
 grind
theorem Z0{n:Nat}(hn:n≤4)(A B:Nat→Nat→Int):ji n (jl n A B)=ji n A*ji n B:=by
 rcases(show n=0∨n=1∨n=2∨n=3∨n=4 by omega)with rfl|rfl|rfl|rfl|rfl
 ·rfl
 ·rw[arx,arx,arx,bbF]
 ·rw[aki,aki,aki];simp only[bbE];grind
 ·rw[akh,akh,akh];simp only[bbD];grind
 ·exact aCQ A B
end Go.Ab
namespace Go.Ab
def aMZ(n:Nat)(A:Nat→Nat→Int)(k j:Nat):Int:=sgI (k+j)*ji (n-1) (ake A j k)
theorem aMC{n:Nat}(hn:n≤4)(A:Nat→Nat→Int){i j:Nat}(hi:i<n)(hj:j<n):jl n A (aMZ n A) i j=if i=j then ji n A else 0:=by
 rcases(show n=1∨n=2∨n=3∨n=4 by omega)with rfl|rfl|rfl|rfl
 ·obtain rfl:i=0:=by omega
  obtain rfl:j=0:=by omega
  rw[bbF,arx,if_pos rfl]
  simp[aMZ,sgI,ji]
 ·simp only[bbE,aMZ,aki,show 2-1=1 from rfl,arx]
  rcases(show i=0∨i=1 by omega)with rfl|rfl<;>rcases(show j=0∨j=1 by omega)with rfl|rfl<;>(simp[sgI,ake,skp];try grind)
 ·simp only[bbD,aMZ,akh,show 3-1=2 from rfl,aki]
  rcases(show i=0∨i=1∨i=2 by omega)with rfl|rfl|rfl<;>rcases(show j=0∨j=1∨j=2 by omega)with rfl|rfl|rfl<;>(simp[sgI,ake,skp];try grind)
 ·simp only[bbC,aMZ,aE6,show 4-1=3 from rfl,akh]
  rcases(show i=0∨i=1∨i=2∨i=3 by omega)with rfl|rfl|rfl|rfl<;>rcases(show j=0∨j=1∨j=2∨j=3 by omega)with rfl|rfl|rfl|rfl<;>(simp[sgI,ake,skp];try grind)
end Go.Ab
namespace Go.Ab
open Go Go.Proofs
/-! ### What determinants are worth-/
end Go.Ab
namespace Go.Ab
open Go Go.Proofs
/-! ### Turned matrices-/
def bea(n:Nat)(l:List ExV):List ExV:=gl n (fun i j=>l.getD (j*n+i) ex0) (n*n)
end Go.Ab
namespace Go.Ab
open Go Go.Proofs
/-! ### Adjugates and minors-/
def bet(n:Nat)(l:List ExV)(a b:Nat):ExV:=(bbK (n-1) (mnR n l b a n)).sgn (b+a)
def beL(n:Nat)(l:List ExV):List ExV:=gl n (bet n l) (n*n)
end Go.Ab
namespace Go.Ab
open Go
section
variable {X:Type}{f:X→List AV}{z:Nat}
end
theorem ae8{l:List DyV}{s:Bool}{xs:List Int}{e:Int}:ql DyV.cs l++[.v (.bool s),.sl xs.length (qc xs),.v (.int .i64 e)]=ql DyV.cs (l++[⟨s,xs,e⟩]):=by
 rw[←Ye,zp,yg,List.append_nil];rfl
theorem adW{l:List DyV}:cut (ql DyV.cs l) 0 (l.length*3)=ql DyV.cs l:=by
 unfold cut;rw[List.drop_zero,List.take_of_length_le (by rw[ap3];exact Nat.le_refl _)]
end Go.Ab
namespace Go.Ab
open Go Go.Proofs
section
variable (l:List UInt8)(hl:l.length≤9223372036854775807)(i h:Int)(hi:0≤i∧i≤l.length)
include hl hi
def aKz(r:AV):Prop:=∃L:List DyV,L.length≤101∧(∀d∈L,d.xs.length≤200)∧r=.sl L.length (ql DyV.cs L)
theorem Jo(k:Int)(hk:k≤100):Con Tryz.prog 78 false [.pt 10000000 0,.v (.int .i64 k)] [.own 0 [.sl l.length (qj l),.v (.int .i64 i),.v (.int .i64 h)]] (YM l aKz):=by
 refine Con.cur l i h (Q:=fun r hs=>(∀ob∈hs,ob.men fun _=>False)∧aKz (qF (rhp hs []) 6 r)) ?_ fun _ _ h=>h
 have hm:∀(M:List DyV),∀ob∈[Ob.own 3 (ql DyV.cs M)],ob.men fun _=>False:=fun M ob ho=>by rw[List.mem_singleton.1 ho];exact of_eq_true adX
 have hq:∀(M:List DyV),M.length≤101→(∀d∈M,d.xs.length≤200)→aKz (qF (rhp [.own 3 (ql DyV.cs M)] []) 6 (.rf 0 0 M.length)):=fun M h1 h2=>⟨M,h1,h2,by
  show qF _ 6 _=_
  simp(disch:=omega)only[go_sem,q9,adW]⟩
 refine Con.of_aw Tryz.func78 rfl Tryz.ntmps78 (by simp) (by simp) (by simp) (W.sound ?_)
 show @W Tryz.prog 25 ⟨_⟩ ⟨fun x σ=>@za _ _ _ ⟨_⟩ _ ⟨_⟩ x σ⟩ _ _
 simp(disch:=omega)only[go_sem]
 refine qi (fun x:List DyV×Int×Int=>[(0,.pt 10000000 0),(1,.v (.int .i64 k)),(5,.rf 3 0 x.1.length),(6,.v (.int .i64 x.1.length))])
  (fun x=>[(3,.own 3 (ql DyV.cs x.1)),(10000000,.own 0 [.sl l.length (qj l),.v (.int .i64 x.2.1),.v (.int .i64 x.2.2)])])
  (fun x=>x.1.length≤100∧(∀d∈x.1,d.xs.length≤200)∧(0≤x.2.1∧x.2.1≤l.length)) (fun x=>k.toNat-x.1.length) ([],i,h) ⟨by simp,by simp,hi⟩
  ((Le.ghost 5 3 3 (by simp(disch:=omega)only[go_sem]) (by simp(disch:=omega)only[go_sem])).trans (Le.lst [] _ _ rfl (by simp(disch:=omega)only[go_sem]) (by simp(disch:=omega)only[go_sem];try rfl))) ?_
 rintro⟨L,i2,h2⟩ ⟨hL,hok,hi2⟩
 dsimp only at hL hok hi2 ⊢
 simp(disch:=omega)only[go_sem]
 refine qe (fun c1=>?_) (fun c1=>?_)
 ·simp(disch:=omega)only[go_sem,c1]
  refine qu (Z3 l hl i2 h2 hi2) ?_
  rintro r i3 h3 hi3 ⟨x,hx,rfl⟩
  simp(disch:=omega)only[go_sem]
  have hx2:(lim x.m).length≤200:=by have:=(jq hx).2.2.1;omega
  have hl2:(L++[DyV.mk x.s (lim x.m) x.e]).length=L.length+1:=by simp
  rw[adW,ae8]
  exact⟨by omega,qb (L++[⟨x.s,lim x.m,x.e⟩],i3,h3) [(3,180000000)] ⟨by dsimp only;omega,fun d hd=>by
   rcases List.mem_append.1 hd with hd|hd
   ·exact hok d hd
   ·rw[List.mem_singleton.1 hd];exact hx2,hi3⟩ (by show k.toNat-(L++[_]).length<k.toNat-L.length;omega) rfl (by simp(disch:=omega)only[go_sem,hl2];try omega) (by simp(disch:=omega)only[go_sem])⟩
 ·simp(disch:=omega)only[go_sem,c1]
  refine qu (qW l hl i2 h2 hi2 15 (by omega)) ?_
  rintro r i3 h3 hi3 ⟨b,rfl⟩
  simp(disch:=omega)only[go_sem]
  cases b
  ·simp(disch:=omega)only[go_sem]
   refine qg [(0,3)] [.own 3 (ql DyV.cs L)] [.own 0 [.sl l.length (qj l),.v (.int .i64 i3),.v (.int .i64 h3)]] [.rf 0 0 L.length] rfl (by simp(disch:=omega)only[go_sem]) (by simp(disch:=omega)only[go_sem]) (by simp) (by simp) ⟨⟨hm L,hq L (by omega) hok⟩,_,_,hi3,rfl⟩
  ·simp(disch:=omega)only[go_sem]
   refine qu (JT l hl i3 h3 hi3) ?_
   rintro r i4 h4 hi4 ⟨⟨S,xs,E⟩,hd,hr⟩
   obtain rfl:r=.ag [.v (.bool S),.sl xs.length (qc xs),.v (.int .i64 E)]:=hr
   dsimp only at hd
   simp(disch:=omega)only[go_sem]
   have hl2:(L++[DyV.mk S xs E]).length=L.length+1:=by simp
   rw[adW,ae8]
   refine⟨by omega,qg [(0,250000000)] [.own 3 (ql DyV.cs (L++[⟨S,xs,E⟩]))] [.own 0 [.sl l.length (qj l),.v (.int .i64 i4),.v (.int .i64 h4)]] [.rf 0 0 (L.length+1)] rfl (by simp(disch:=omega)only[go_sem]) (by simp(disch:=omega)only[go_sem]) (by simp) (by simp) ⟨⟨hm _,?_⟩,_,_,hi4,rfl⟩⟩
   rw[←hl2]
   exact hq _ (by omega) fun d hd'=>by
    rcases List.mem_append.1 hd' with hd'|hd'
    ·exact hok d hd'
    ·rw[List.mem_singleton.1 hd'];exact hd
end
end Go.Ab
namespace Go.Ab
open Go Go.Proofs
/-! ### Polynomials of a matrix-/
def ZE(n:Nat)(L:List ExV):Nat→List ExV
 |0=>gId n
 |k+1=>zq n (ZE n L k) L
def ju(n:Nat)(L p:List ExV):Nat→List ExV
 |0=>qC n (gId n) ex0
 |k+1=>jh n (ju n L p k) (qC n (ZE n L k) (p.getD k ex0))
theorem jX{n:Nat}{L:List ExV}:∀k,(ZE n L k).length=n*n
 |0=>yn
 |k+1=>by rw[ZE];unfold zq;exact zn
theorem zV{n:Nat}{L p:List ExV}:∀k,(ju n L p k).length=n*n
 |0=>by rw[ju];unfold qC;exact zn
 |k+1=>by rw[ju];unfold jh;exact zn
theorem yT{n:Nat}{l:List ExV}{y:ExV}{a b c d:Int}(hl:l.length=n*n)(h:gbd a b l)(hy:y.bd c d):gbd (a+c) (b+d) (qC n l y):=
 ajr fun i j hi hj=>ExV.times_bd (qT h (by rw[hl];exact qZ hi hj)) hy
theorem aab{n:Nat}:gbd 0 1 (gId n):=fun x hx=>by
 unfold gId gl at hx
 obtain⟨t,ht,rfl⟩:=List.mem_map.1 hx
 unfold idF;split<;>decide+kernel
theorem Qx{n:Nat}{L:List ExV}(h:matV n L):∀k:Nat,gbd (-3000*k) (4604*k+1) (ZE n L k)
 |0=>qQ aab (by omega) (by omega)
 |k+1=>ajr fun i j hi hj=>(adY (l1:= -3000*k) (h1:=4604*k+1) (l2:= -3000) (h2:=4600) hi hj (Nat.le_refl n) (jX k) h.len (Qx h k) h.bd (by omega)).mono (by omega) (by have:=h.n4;omega)
theorem aZj{p:List ExV}(hp:∀x∈p,x.ok=true)(k:Nat):(p.getD k ex0).ok=true:=by
 rw[List.getD_eq_getElem?_getD]
 rcases Nat.lt_or_ge k p.length with h|h
 ·rw[List.getElem?_eq_getElem h];exact hp _ (List.getElem_mem h)
 ·rw[List.getElem?_eq_none h];exact ZX
theorem Yi{n:Nat}{L p:List ExV}(h:matV n L)(hp:∀x∈p,x.ok=true)(k:Nat)(hk:k≤11):gbd (-40000) 60000 (qC n (ZE n L k) (p.getD k ex0)):=
 qQ (yT (jX k) (Qx h k) (Yl (aZj hp k))) (by omega) (by omega)
theorem adu{n:Nat}{L p:List ExV}(h:matV n L)(hp:∀x∈p,x.ok=true)(k:Nat)(hk:k≤12):gbd (-40000) (60000+k) (ju n L p k):=by
 induction k with
 |zero=>
  rw[ju]
  exact qQ (yT yn aab (Yl ZX)) (by omega) (by omega)
 |succ k ih=>
  rw[ju]
  exact qQ (aaa (zV k) (by unfold qC;exact zn) (ih (by omega)) (qQ (Yi h hp k (by omega)) (by omega) (by omega))) (by omega) (by omega)
set_option maxRecDepth 100000 in
theorem Ja(n:Nat)(L p:List ExV)(h:matV n L)(hp:∀x∈p,x.ok=true)(hl:p.length≤12):Con Tryz.prog 15 false [.sl p.length (ql ExV.cs p),.ag [.v (.int .i64 (n)),.sl (L).length (ql ExV.cs (L))]] []
  (isA (.tu [.ag [.v (.int .i64 (gN n (ju n L p p.length))),.sl (gT (ju n L p p.length)).length (ql ExV.cs (gT (ju n L p p.length)))],.v (.bool ((ju n L p p.length).all ExV.fit))])):=by
 refine Con.frzA ?_
 have ca:=QM (p.map ExV.dyv) (by rw[List.length_map];omega) (fun d hd=>by
  obtain⟨x,hx,rfl⟩:=List.mem_map.1 hd
  have:=(jq (hp x hx)).2.2.1
  show(lim x.m).length≤_
  omega)
 rw[jW,List.length_map,show(p.map ExV.dyv).all DyV.ok=true by
  rw[List.all_map];exact List.all_eq_true.2 hp]at ca
 have hq:=ye h.n4
 have ci:=aek n h.n4
 have cs:=j6 n (gId n) ex0 h.n4 yn (qQ aab (by omega) (by omega)) (by decide+kernel)
 change Con _ _ _ _ _ (isA (.ag [.v (.int .i64 (n)),.sl (ju n L p 0).length (ql ExV.cs (ju n L p 0))]))at cs
 have cm:=Qj n (ju n L p p.length) (by rw[zV];omega) (qQ (adu h hp p.length hl) (by omega) (by omega))
 have h0:gId n=ZE n L 0:=rfl
 rw[h0]at ci cs
 refine Con.of_w (rs:=[.cell 4 25,.tmp 5]) Tryz.func15 rfl Tryz.ntmps15 rfl ?_
 simp(disch:=omega)only[go_sem,decide_eq_false (show ¬(12:Int)<p.length by omega)]
 refine qm (yE n L h) ?_
 simp(disch:=omega)only[go_sem]
 simp(disch:=omega)only[go_sem,decide_eq_false (show ¬(12:Int)<p.length by omega)]
 refine qm (ca) ?_
 simp(disch:=omega)only[go_sem]
 refine qs rfl [⟨0,[],[]⟩,⟨1,[],[]⟩,⟨3,[1],[]⟩,⟨5,[1,3],[]⟩,⟨6,[1,3],[80000000]⟩,⟨2,[3],[80000000,90000000]⟩,⟨4,[],[80000000,90000000]⟩,⟨7,[],[]⟩,⟨8,[],[]⟩] (by kernel_rfl) ?_
 simp(disch:=omega)only[go_sem]
 refine qa (ci) ?_
 simp(disch:=omega)only[go_sem]
 refine qa (zv n L (by have:=h.l16;omega)) ?_
 simp(disch:=omega)only[go_sem]
 refine qa (cs) ?_ (by simp(disch:=omega)only[go_sem,ex0,qo,List.length_nil,zX])
 simp(disch:=omega)only[go_sem]
 refine qi (fun k:Nat=>[(4,.pt 4 0),(6,.pt 6 0),(7,.pt 7 0),(8,.pt 8 0),(33,.sl p.length (ql ExV.cs p)),(34,.v (.int .i64 p.length)),(35,.v (.int .i64 k))])
  (fun k=>[(4,.own 0 [.v (.int .i64 0),.v (.slice none 0 0)]),(6,.own 0 [.v (.int .i64 n),.sl (ZE n L k).length (ql ExV.cs (ZE n L k))]),(7,.own 0 [.v (.int .i64 n),.sl L.length (ql ExV.cs L)]),(8,.own 0 [.v (.int .i64 n),.sl (ju n L p k).length (ql ExV.cs (ju n L p k))])])
  (fun k=>k≤p.length) (fun k=>p.length-k) 0 (by omega)
  (Le.lst [(4,60000000),(6,80000000),(7,90000000),(8,100000000)] _ _ rfl (by simp(disch:=omega)only[go_sem]) (by simp(disch:=omega)only[go_sem])) ?_
 intro k hk
 simp(disch:=omega)only[go_sem]
 refine qe (fun c1=>?_) (fun c1=>?_)
 ·have hcut:=zI (l:=p) (i:=k) (by omega)
  have ox:=aZj hp k
  have c2:=j6 n (ZE n L k) (p.getD k ex0) h.n4 (jX k) (qQ (Qx h k) (by omega) (by omega)) ((Yl ox).mono (by omega) (by omega))
  have c3:=aav n (ju n L p k) (qC n (ZE n L k) (p.getD k ex0)) h.n4 (zV k) (by unfold qC;exact zn) (qQ (adu h hp k (by omega)) (by omega) (by omega)) (qQ (Yi h hp k (by omega)) (by omega) (by omega))
  have c4:=JY n (ZE n L k) L h.n4 (jX k) h.len (qQ (Qx h k) (by omega) (by omega)) h.bd3
  change Con _ _ _ _ _ (isA (.ag [.v (.int .i64 (n)),.sl (ZE n L (k+1)).length (ql ExV.cs (ZE n L (k+1)))]))at c4
  change Con _ _ _ _ _ (isA (.ag [.v (.int .i64 (n)),.sl (ju n L p (k+1)).length (ql ExV.cs (ju n L p (k+1)))]))at c3
  generalize qC n (ZE n L k) (p.getD k ex0)=T at*
  generalize p.getD k ex0=x at*
  generalize hP1:ZE n L (k+1)=P1 at*
  generalize hS1:ju n L p (k+1)=S1 at*
  generalize ZE n L k=P0 at*
  generalize ju n L p k=S0 at*
  simp(disch:=omega)only[go_sem,c1,hcut]
  refine⟨by omega,by omega,?_⟩
  refine qs rfl [⟨0,[],[]⟩,⟨1,[0],[]⟩,⟨2,[0,1],[]⟩,⟨3,[0,1],[]⟩,⟨4,[0],[]⟩,⟨5,[],[]⟩,⟨6,[],[]⟩] (by kernel_rfl) ?_
  simp(disch:=omega)only[go_sem]
  refine qa (yV x.s x.m x.e) ?_
  simp(disch:=omega)only[go_sem]
  refine qa (c2) ?_
  simp(disch:=omega)only[go_sem]
  refine qa (c3) ?_
  simp(disch:=omega)only[go_sem]
  refine qa (c4) ?_
  simp(disch:=omega)only[go_sem]
  exact qb (k+1) [] (by show k+1≤p.length;omega) (by show p.length-(k+1)<p.length-k;omega) rfl (by simp(disch:=omega)only[go_sem];try omega) (by simp(disch:=omega)only[go_sem,hP1,hS1])
 ·obtain rfl:k=p.length:=by omega
  generalize ju n L p p.length=S at*
  simp(disch:=omega)only[go_sem,c1]
  refine qa (cm) ?_
  simp(disch:=omega)only[go_sem]
  exact qk
theorem YZ(k:Int)(M p:List DyV)(h1:M.length≤16)(h2:∀d∈M,d.xs.length≤200)(h3:p.length≤101)(h4:∀d∈p,d.xs.length≤200)(h:(K0 k M&&(decide (p.length≤12)&&p.all DyV.ok))=false):
  Con Tryz.prog 15 false [.sl p.length (ql DyV.cs p),.ag [.v (.int .i64 k),.sl M.length (ql DyV.cs M)]] [] (isA (.tu [.ag [.v (.int .i64 0),.sl 0 []],.v (.bool false)])):=by
 refine Con.frzA ?_
 have c:=QN k M h1 h2
 have ca:=QM p (by omega) (fun d hd=>by have:=h4 d hd;omega)
 refine Con.of_w (rs:=[.cell 4 25,.tmp 5]) Tryz.func15 rfl Tryz.ntmps15 rfl ?_
 simp(disch:=omega)only[go_sem]
 by_cases c1:(12:Int)<p.length
 ·cases hb:K0 k M
  ·rw[hb]at c
   refine qm (c) ?_
   simp(disch:=omega)only[go_sem]
   exact qk
  ·rw[hb]at c
   refine qm (c) ?_
   simp(disch:=omega)only[go_sem]
   simp(disch:=omega)only[go_sem,c1]
   exact qk
 ·cases hb:K0 k M
  ·rw[hb]at c
   refine qm (c) ?_
   simp(disch:=omega)only[go_sem]
   exact qk
  ·rw[hb,decide_eq_true (show p.length≤12 by omega),Bool.true_and,Bool.true_and]at h
   rw[hb]at c
   rw[h]at ca
   refine qm (c) ?_
   simp(disch:=omega)only[go_sem]
   simp(disch:=omega)only[go_sem,c1]
   refine qm (ca) ?_
   simp(disch:=omega)only[go_sem]
   exact qk
end Go.Ab
namespace Go.Ab
def idI(i j:Nat):Int:=if i=j then 1 else 0
def aoS(n:Nat)(A:Nat→Nat→Int):Nat→Nat→Nat→Int
 |0=>idI
 |k+1=>jl n (aoS n A k) A
def pm3(A:Nat→Nat→Int)(r:Nat):Int:=ji 3 (ake A r r)
end Go.Ab
namespace Go.Ab
/-! ### Ranks-/
theorem Zt{f:Nat→Int}{k:Nat}:∀{m:Nat},k≤m→(∀i,k≤i→f i=0)→qA f m=qA f k
 |0,h,_=>by
  obtain rfl:k=0:=by omega
  rfl
 |m+1,h,hz=>by
  by_cases e:k=m+1
  ·rw[e]
  ·rw[qA,Zt (by omega) hz,hz m (by omega),Int.add_zero]
def ai0(n k:Nat)(A:Nat→Nat→Int):Prop:=∃(c:Int) (B C:Nat→Nat→Int),c≠0∧∀i j,i<n→j<n→c*A i j=qA (fun t=>B i t*C t j) k
theorem Qs{n k:Nat}{A A':Nat→Nat→Int}(h:∀i j,i<n→j<n→A i j=A' i j):ai0 n k A→ai0 n k A'
 |⟨c,B,C,h0,h1⟩=>⟨c,B,C,h0,fun i j hi hj=>by rw[←h i j hi hj];exact h1 i j hi hj⟩
theorem KA{n k:Nat}{A:Nat→Nat→Int}:ai0 n k A→ai0 n k (fun i j=>A j i)
 |⟨c,B,C,h0,h1⟩=>⟨c,fun i t=>C t i,fun t j=>B j t,h0,fun i j hi hj=>by
  rw[h1 j i hj hi];exact qB fun t _=>Int.mul_comm _ _⟩
theorem Zb(n k:Nat)(f:Nat→Int)(g:Nat→Nat→Int)(h:Nat→Int):qA (fun s=>qA (fun t=>f t*g t s) k*h s) n=qA (fun t=>f t*qA (fun s=>g t s*h s) n) k:=by
 have e1:qA (fun s=>qA (fun t=>f t*g t s) k*h s) n=qA (fun s=>qA (fun t=>f t*(g t s*h s)) k) n:=
  qB fun s _=>by rw[←Qv];exact qB fun t _=>Int.mul_assoc _ _ _
 have e2:qA (fun t=>f t*qA (fun s=>g t s*h s) n) k=qA (fun t=>qA (fun s=>f t*(g t s*h s)) n) k:=
  qB fun t _=>by rw[←yw]
 rw[e1,e2,Jx]
theorem aom{n k:Nat}{A:Nat→Nat→Int}(D:Nat→Nat→Int):ai0 n k A→ai0 n k (jl n A D)
 |⟨c,B,C,h0,h1⟩=>⟨c,B,jl n C D,h0,fun i j hi hj=>by
  show c*qA (fun t=>A i t*D t j) n=qA (fun t=>B i t*qA (fun s=>C t s*D s j) n) k
  rw[←Zb,←yw]
  exact qB fun s hs=>by rw[←h1 i s hi hs,Int.mul_assoc]⟩
theorem KB{n k:Nat}{A:Nat→Nat→Int}(D:Nat→Nat→Int):ai0 n k A→ai0 n k (jl n D A)
 |⟨c,B,C,h0,h1⟩=>⟨c,jl n D B,C,h0,fun i j hi hj=>by
  show c*qA (fun t=>D i t*A t j) n=qA (fun t=>qA (fun s=>D i s*B s t) n*C t j) k
  rw[Zb,←yw]
  exact qB fun s hs=>by rw[←h1 s j hs hj,Int.mul_left_comm]⟩
def dgI(c:Int)(i j:Nat):Int:=if i=j then c else 0
theorem aOY{n:Nat}(c:Int)(A:Nat→Nat→Int){i j:Nat}(hi:i<n):jl n (dgI c) A i j=c*A i j:=by
 unfold jl
 rw[jm (j:=i) hi (fun t _ hne=>by unfold dgI;rw[if_neg (fun h=>hne h.symm),Int.zero_mul])]
 unfold dgI;rw[if_pos rfl]
theorem aS2{n:Nat}(hn:n≤4){c:Int}(hc:c≠0):ji n (dgI c)≠0:=by
 rcases(show n=0∨n=1∨n=2∨n=3∨n=4 by omega)with rfl|rfl|rfl|rfl|rfl
 ·intro h;cases h
 ·rw[arx];simp[dgI,hc]
 ·rw[aki];simp[dgI,hc]
 ·rw[akh];simp[dgI,hc]
 ·rw[aE6];simp[dgI,hc]
theorem aCP{n:Nat}(hn:n≤4)(h1:1≤n){A:Nat→Nat→Int}(h:∀i,A i (n-1)=0):ji n A=0:=by
 rcases(show n=1∨n=2∨n=3∨n=4 by omega)with rfl|rfl|rfl|rfl
 ·have:=h 0
  rw[arx];simpa using this
 ·have h:∀i,A i 1=0:=h
  rw[aki];simp[h]
 ·have h:∀i,A i 2=0:=h
  rw[akh];simp[h]
 ·have h:∀i,A i 3=0:=h
  rw[aE6];simp[h]
theorem aAz{n k:Nat}(hn:n≤4)(hk:k<n){A:Nat→Nat→Int}:ai0 n k A→ji n A=0
 |⟨c,B,C,h0,h1⟩=>by
  have e:ji n (jl n (dgI c) A)=ji n (jl n (fun i t=>if t<k then B i t else 0) C):=yt fun i j hi hj=>by
   rw[aOY c A hi,h1 i j hi hj]
   show _=qA (fun t=>(if t<k then B i t else 0)*C t j) n
   rw[Zt (f:=fun t=>(if t<k then B i t else 0)*C t j) (k:=k) (by omega) (fun t ht=>by rw[if_neg (by omega),Int.zero_mul])]
   exact qB fun t ht=>by rw[if_pos ht]
  rw[Z0 hn,Z0 hn,aCP hn (by omega) (A:=fun i t=>if t<k then B i t else 0) (fun i=>if_neg (by omega)),Int.zero_mul]at e
  exact(Int.mul_eq_zero.1 e).resolve_left (aS2 hn h0)
theorem ap7{r:Nat}(hr:r≤4){T:Nat→Nat→Int}(hd:∀t,t<r→T t t≠0)(hz:∀s t,t<s→s<r→T s t=0):ji r T≠0:=by
 rcases(show r=0∨r=1∨r=2∨r=3∨r=4 by omega)with rfl|rfl|rfl|rfl|rfl
 ·intro h;cases h
 ·rw[arx];exact hd 0 (by omega)
 ·rw[aki,hz 1 0 (by omega) (by omega)]
  simp[hd 0 (by omega),hd 1 (by omega)]
 ·rw[akh,hz 1 0 (by omega) (by omega),hz 2 0 (by omega) (by omega),hz 2 1 (by omega) (by omega)]
  simp[hd 0 (by omega),hd 1 (by omega),hd 2 (by omega)]
 ·rw[aE6,hz 1 0 (by omega) (by omega),hz 2 0 (by omega) (by omega),hz 2 1 (by omega) (by omega),hz 3 0 (by omega) (by omega),hz 3 1 (by omega) (by omega),hz 3 2 (by omega) (by omega)]
  simp[hd 0 (by omega),hd 1 (by omega),hd 2 (by omega),hd 3 (by omega)]
structure isRank(n:Nat)(A:Nat→Nat→Int)(r:Nat):Prop where
 le:r≤n
 up:ai0 n r A
 low:∀k,ai0 n k A→r≤k
 full:r=n→ji n A≠0
theorem isRank.turn{n r s:Nat}{A:Nat→Nat→Int}(h:isRank n A r)(g:isRank n (fun i j=>A j i) s):s=r:=
 Nat.le_antisymm (g.low r (KA h.up)) (h.low s (KA g.up))
theorem isRank.congr{n r:Nat}{A B:Nat→Nat→Int}(h:isRank n A r)(e:∀i j,i<n→j<n→A i j=B i j):isRank n B r:=
 ⟨h.le,Qs e h.up,fun k hk=>h.low k (Qs (fun i j hi hj=>(e i j hi hj).symm) hk),fun hr=>by rw[←yt e];exact h.full hr⟩
theorem isRank.mul{n r s t:Nat}{A B:Nat→Nat→Int}(h:isRank n A r)(g:isRank n B s)(p:isRank n (jl n A B) t):t≤r∧t≤s:=
 ⟨p.low r (aom B h.up),p.low s (KB A g.up)⟩
structure elim(n:Nat)(A C:Nat→Nat→Int)(r j:Nat):Prop where
 le:r≤n
 rj:r≤j
 u:∃U:Nat→Nat→Int,ji n U≠0∧∀i k,i<n→k<n→C i k=jl n U A i k
 p:∃p:Nat→Nat,∀t,t<r→p t<j∧p t<n∧C t (p t)≠0∧∀s,t<s→s<n→C s (p t)=0
 z:∀i k,r≤i→i<n→k<j→k<n→C i k=0
theorem JI(n:Nat)(A B C:Nat→Nat→Int)(i j:Nat):jl n (jl n A B) C i j=jl n A (jl n B C) i j:=
 Zb n n (fun t=>A i t) B (fun s=>C s j)
theorem elim.rank{n:Nat}(hn:n≤4){A C:Nat→Nat→Int}{r:Nat}(h:elim n A C r n):isRank n A r:=by
 obtain⟨hle, -,⟨U,hU,hC⟩,⟨p,hp⟩,hz⟩:=h
 have lowC:∀k,ai0 n k C→r≤k:=fun k hk=>by
  rcases Nat.lt_or_ge k r with g|g
  ·exfalso
   obtain⟨c,B,D,h0,h1⟩:=hk
   have ht:ai0 r k (fun s t=>C s (p t)):=⟨c,B,fun u t=>D u (p t),h0,fun s t hs ht=>h1 s (p t) (by omega) (hp t ht).2.1⟩
   exact ap7 (by omega) (fun t ht=>(hp t ht).2.2.1) (fun s t hst hs=>(hp t (by omega)).2.2.2 s hst (by omega)) (aAz (by omega) g ht)
  ·exact g
 refine⟨hle,?_,fun k hk=>lowC k (Qs (fun i j hi hj=>(hC i j hi hj).symm) (KB U hk)),fun hr hd=>?_⟩
 ·
  obtain⟨V,hV⟩:∃V:Nat→Nat→Int,∀i j,i<n→j<n→jl n V U i j=if i=j then ji n U else 0:=by
   refine⟨fun i j=>aMZ n (fun a b=>U b a) j i,fun i j hi hj=>?_⟩
   have:=aMC hn (fun a b=>U b a) hj hi
   rw[aCO hn]at this
   have e2:(if i=j then ji n U else 0)=if j=i then ji n U else 0:=by
    by_cases e:i=j
    ·rw[if_pos e,if_pos e.symm]
    ·rw[if_neg e,if_neg (fun h=>e h.symm)]
   rw[e2,←this]
   exact qB fun t _=>Int.mul_comm _ _
  refine⟨ji n U,V,C,hU,fun i j hi hj=>?_⟩
  have e1:qA (fun t=>V i t*C t j) r=qA (fun t=>V i t*C t j) n:=by
   have:qA (fun t=>V i t*C t j) n=qA (fun t=>if t<r then V i t*C t j else 0) n:=qB fun t ht=>by
    by_cases g:t<r
    ·rw[if_pos g]
    ·rw[if_neg g,hz t j (by omega) ht hj hj,Int.mul_zero]
   rw[this,Zt hle (fun t ht=>if_neg (by omega))]
   exact qB fun t ht=>by rw[if_pos ht]
  rw[e1]
  have e2:qA (fun t=>V i t*C t j) n=jl n (jl n V U) A i j:=by
   rw[JI]
   exact qB fun t ht=>by rw[hC t j ht hj]
  rw[e2]
  show _=qA (fun t=>jl n V U i t*A t j) n
  rw[jm (j:=i) hi (fun t ht hne=>by rw[hV i t hi ht,if_neg (fun h=>hne h.symm),Int.zero_mul]),hV i i hi hi,if_pos rfl]
 ·subst hr
  have h1:ji r C=0:=by
   rw[yt hC,Z0 hn,hd,Int.mul_zero]
  have h2:ji r (jl r C (fun u t=>if u=p t then 1 else 0))=0:=by rw[Z0 hn,h1,Int.zero_mul]
  refine ap7 hn (T:=fun s t=>C s (p t)) (fun t ht=>(hp t ht).2.2.1) (fun s t hst hs=>(hp t (by omega)).2.2.2 s hst (by omega)) ?_
  rw[←h2]
  refine yt fun i j hi hj=>?_
  show C i (p j)=qA (fun u=>C i u*(if u=p j then 1 else 0)) r
  rw[jm (j:=p j) (hp j hj).2.1 (fun t _ hne=>by rw[if_neg hne,Int.mul_zero]),if_pos rfl,Int.mul_one]
theorem elim.skip{n:Nat}{A C:Nat→Nat→Int}{r j:Nat}(h:elim n A C r j)(hz:∀i,r≤i→i<n→C i j=0):elim n A C r (j+1):=by
 obtain⟨h1,h2,h3,⟨p,hp⟩,h5⟩:=h
 refine⟨h1,by omega,h3,⟨p,fun t ht=>⟨by have:=(hp t ht).1;omega,(hp t ht).2⟩⟩,fun i k hi hin hk hkn=>?_⟩
 rcases(show k<j∨k=j by omega)with g|rfl
 ·exact h5 i k hi hin g hkn
 ·exact hz i hi hin
def swI(a b i:Nat):Nat:=if i=a then b else if i=b then a else i
theorem ap8{n:Nat}(hn:n≤4){a r:Nat}(ha:a<n)(hr:r<n)(hne:a≠r)(p q:Int)(hp:p≠0):ji n (fun i j=>if i=a then(if j=a then p else if j=r then-q else 0)else if i=j then 1 else 0)≠0:=by
 rcases(show n=1∨n=2∨n=3∨n=4 by omega)with rfl|rfl|rfl|rfl
 ·omega
 ·rw[aki]
  rcases(show a=0∨a=1 by omega)with rfl|rfl<;>rcases(show r=0∨r=1 by omega)with rfl|rfl<;>first|omega|simp[hp]
 ·rw[akh]
  rcases(show a=0∨a=1∨a=2 by omega)with rfl|rfl|rfl<;>rcases(show r=0∨r=1∨r=2 by omega)with rfl|rfl|rfl<;>first|omega|simp[hp]
 ·rw[aE6]
  rcases(show a=0∨a=1∨a=2∨a=3 by omega)with rfl|rfl|rfl|rfl<;>rcases(show r=0∨r=1∨r=2∨r=3 by omega)with rfl|rfl|rfl|rfl<;>first|omega|simp[hp]
structure elimR(n:Nat)(A C:Nat→Nat→Int)(r j m:Nat):Prop where
 rn:r<n
 rj:r≤j
 jn:j<n
 rm:r<m
 u:∃U:Nat→Nat→Int,ji n U≠0∧∀i k,i<n→k<n→C i k=jl n U A i k
 p:∃p:Nat→Nat,∀t,t<r→p t<j∧p t<n∧C t (p t)≠0∧∀s,t<s→s<n→C s (p t)=0
 z:∀i k,r≤i→i<n→k<j→k<n→C i k=0
 pv:C r j≠0
 zm:∀i,r<i→i<m→i<n→C i j=0
theorem elim.pivot{n:Nat}{A C:Nat→Nat→Int}{r j:Nat}(h:elim n A C r j)(hr:r<n)(hj:j<n)(hp:C r j≠0):elimR n A C r j (r+1):=
 ⟨hr,h.rj,hj,by omega,h.u,h.p,h.z,hp,fun i h1 h2=>by omega⟩
theorem elimR.done{n:Nat}{A C:Nat→Nat→Int}{r j m:Nat}(h:elimR n A C r j m)(hm:n≤m):elim n A C (r+1) (j+1):=by
 obtain⟨h1,h2,h3,h4,h5,⟨p,hp⟩,h7,h8,h9⟩:=h
 refine⟨by omega,by omega,h5,⟨fun t=>if t=r then j else p t,fun t ht=>?_⟩,fun i k hi hin hk hkn=>?_⟩
 ·dsimp only
  by_cases e:t=r
  ·rw[if_pos e,e]
   exact⟨by omega,h3,h8,fun s hs hsn=>h9 s hs (by omega) hsn⟩
  ·rw[if_neg e]
   obtain⟨a,b,c,d⟩:=hp t (by omega)
   exact⟨by omega,b,c,d⟩
 ·rcases(show k<j∨k=j by omega)with g|rfl
  ·exact h7 i k (by omega) hin g hkn
  ·exact h9 i (by omega) (by omega) hin
theorem elimR.step{n:Nat}(hn:n≤4){A C C':Nat→Nat→Int}{r j m:Nat}(h:elimR n A C r j m)(hm:m<n)(h1:∀i k,i<n→k<n→i≠m→C' i k=C i k)(h2:∀k,k<n→C' m k=C m k*C r j-C r k*C m j):elimR n A C' r j (m+1):=by
 obtain⟨g1,g2,g3,g4,⟨U,hU,hC⟩,⟨p,hp⟩,g7,g8,g9⟩:=h
 refine⟨g1,g2,g3,by omega,⟨jl n (fun i k=>if i=m then(if k=m then C r j else if k=r then-C m j else 0)else if i=k then 1 else 0) U,?_,fun i k hi hk=>?_⟩,⟨p,fun t ht=>?_⟩,fun i k hi hin hk hkn=>?_,?_,fun i hi him hin=>?_⟩
 ·rw[Z0 hn]
  intro e
  rcases Int.mul_eq_zero.1 e with e|e
  ·exact ap8 hn hm g1 (by omega) (C r j) (C m j) g8 e
  ·exact hU e
 ·rw[JI]
  show C' i k=qA (fun t=>(if i=m then(if t=m then C r j else if t=r then-C m j else 0)else if i=t then 1 else 0)*jl n U A t k) n
  by_cases e:i=m
  ·subst e
   have e2:qA (fun t=>(if i=i then(if t=i then C r j else if t=r then-C i j else 0)else if i=t then 1 else 0)*jl n U A t k) n=qA (fun t=>(if t=i then C r j*C i k else 0)+(if t=r then-C i j*C r k else 0)) n:=qB fun t ht=>by
    rw[if_pos rfl,←hC t k ht hk]
    by_cases a:t=i
    ·rw[if_pos a,if_pos a,if_neg (show ¬t=r by omega),a,Int.add_zero]
    ·rw[if_neg a,if_neg a]
     by_cases b:t=r
     ·rw[if_pos b,if_pos b,b,Int.zero_add]
     ·rw[if_neg b,if_neg b,Int.zero_mul,Int.add_zero]
   rw[e2,Zu,jm (j:=i) hi (fun t _ hne=>if_neg hne),jm (j:=r) g1 (fun t _ hne=>if_neg hne),if_pos rfl,if_pos rfl,h2 k hk,Int.mul_comm (C i k),Int.neg_mul,Int.mul_comm (C r k)]
   omega
  ·rw[jm (j:=i) hi (fun t _ hne=>by rw[if_neg e,if_neg (fun h=>hne h.symm),Int.zero_mul]),if_neg e,if_pos rfl,Int.one_mul,h1 i k hi hk e]
   exact hC i k hi hk
 ·obtain⟨a,b,c,d⟩:=hp t ht
  refine⟨a,b,?_,fun s hts hsn=>?_⟩
  ·rw[h1 t (p t) (by omega) b (by omega)];exact c
  ·by_cases e:s=m
   ·rw[e,h2 _ b,d m (by omega) hm,d r (by omega) g1];simp
   ·rw[h1 s _ hsn b e];exact d s hts hsn
 ·by_cases e:i=m
  ·rw[e,h2 k hkn,g7 m k (by omega) hm hk hkn,g7 r k (by omega) g1 hk hkn];simp
  ·rw[h1 i k hin hkn e];exact g7 i k hi hin hk hkn
 ·rw[h1 r j g1 g3 (by omega)];exact g8
 ·by_cases e:i=m
  ·rw[e,h2 j g3,Int.mul_comm];omega
  ·rw[h1 i j hin g3 e];exact g9 i hi (by omega) hin
end Go.Ab
namespace Go.Ab
/-! ### Sums of powers of a matrix,at one scale-/
def p2(k:Nat):Int:=2^k
theorem aEK(a b:Nat):p2 (a+b)=p2 a*p2 b:=Int.pow_add 2 a b
theorem aBf{a b c:Nat}(h:a=b+c):p2 a=p2 b*p2 c:=by rw[h,aEK]
theorem Jw(f:Nat→Int):∀k,qA f (k+1)=f 0+qA (fun t=>f (t+1)) k
 |0=>by simp[qA]
 |k+1=>by
  have:=Jw f k
  rw[qA,this,qA]
  omega
def aJl(n:Nat)(P:Nat→Int)(A:Nat→Nat→Int)(m i j:Nat):Int:=qA (fun t=>P t*aoS n A t i j*p2 (40000-3000*(t+1))) m
theorem aoU{n m:Nat}(hm:m≤11)(P P':Nat→Int)(A:Nat→Nat→Int)(hP:∀t,t<m→P (t+1)=P' t){i j:Nat}(hj:j<n):
  aJl n P A (m+1) i j*p2 3000=jl n (aJl n P' A m) A i j+(if i=j then p2 40000 else 0)*P 0:=by
 have e1:aJl n P A (m+1) i j=P 0*idI i j*p2 37000+qA (fun t=>P' t*jl n (aoS n A t) A i j*p2 (40000-3000*(t+2))) m:=by
  unfold aJl
  rw[Jw]
  congr 1
  exact qB fun t ht=>by rw[hP t ht];rfl
 have e2:jl n (aJl n P' A m) A i j=qA (fun t=>P' t*p2 (40000-3000*(t+1))*jl n (aoS n A t) A i j) m:=by
  show qA (fun s=>qA (fun t=>P' t*aoS n A t i s*p2 (40000-3000*(t+1))) m*A s j) n=_
  rw[show(fun s=>qA (fun t=>P' t*aoS n A t i s*p2 (40000-3000*(t+1))) m*A s j)=(fun s=>qA (fun t=>(P' t*p2 (40000-3000*(t+1)))*aoS n A t i s) m*A s j) from by
   funext s;congr 2;funext t;rw[Int.mul_right_comm]]
  exact Zb n m (fun t=>P' t*p2 (40000-3000*(t+1))) (fun t s=>aoS n A t i s) (fun s=>A s j)
 rw[e1,e2,Int.add_mul,Int.add_comm]
 congr 1
 ·rw[←Qv]
  exact qB fun t ht=>by
   rw[aBf (a:=40000-3000*(t+1)) (b:=40000-3000*(t+2)) (c:=3000) (by omega)]
   rw[Int.mul_assoc,Int.mul_assoc,Int.mul_assoc,Int.mul_comm (jl n (aoS n A t) A i j)]
 ·rw[Int.mul_assoc,←aEK]
  unfold idI
  split
  ·rw[Int.mul_one,Int.mul_comm]
  ·rw[Int.mul_zero,Int.zero_mul,Int.zero_mul]
end Go.Ab
namespace Go.Ab
open Go Go.Proofs
/-! ### What polynomials of a matrix are worth-/
theorem apF{K:Nat}{hi:Int}{L:List ExV}(h:gbd (-K) hi L):eK K L:=fun x hx=>(h x hx).2.1
theorem aEP{K n:Nat}{L:List ExV}{i j:Nat}(hl:L.length=n*n)(hK:eK K L)(hi:i<n)(hj:j<n):mv K (L.map ExV.can) n i j=mv K L n i j:=by
 have hx:=qZ hi hj
 unfold mv
 rw[apf (by rw[hl];exact hx),aqT (yq hK (by rw[hl];exact hx))]
theorem aOX{K j' n:Nat}{L:List ExV}{i j:Nat}(hl:L.length=n*n)(hK:eK K L)(hi:i<n)(hj:j<n):mv (K+j') L n i j=mv K L n i j*p2 j':=
 aM7 (yq hK (by rw[hl];exact qZ hi hj))
theorem aBb{K K' n:Nat}{L L':List ExV}{i j:Nat}(h:eK K L)(h':eK K' L')(hl:L.length=n*n)(hl':L'.length=n*n)(hi:i<n)(hj:j<n):mv (K+K') (zq n L L') n i j=jl n (mv K L n) (mv K' L' n) i j:=by
 obtain⟨h1,h2⟩:=YK h h' hl hl' hi hj n (Nat.le_refl n)
 show(_:ExV).val _=_
 unfold zq
 rw[apD hi hj,h1];rfl
theorem aJj{K n:Nat}{L L':List ExV}{i j:Nat}(h:eK K L)(h':eK K L')(hl:L.length=n*n)(hl':L'.length=n*n)(hi:i<n)(hj:j<n):mv K (jh n L L') n i j=mv K L n i j+mv K L' n i j:=by
 have a:=yq h (i:=i*n+j) (by rw[hl];exact qZ hi hj)
 have b:=yq h' (i:=i*n+j) (by rw[hl'];exact qZ hi hj)
 show(_:ExV).val _=_
 unfold jh
 rw[apD hi hj,Zd a b];rfl
theorem KL{K K' n:Nat}{L:List ExV}{y:ExV}{i j:Nat}(h:eK K L)(hy: -(K':Int)≤y.e)(hl:L.length=n*n)(hi:i<n)(hj:j<n):mv (K+K') (qC n L y) n i j=mv K L n i j*y.val K':=by
 have a:=yq h (i:=i*n+j) (by rw[hl];exact qZ hi hj)
 show(_:ExV).val _=_
 unfold qC
 rw[apD hi hj,Zn a hy];rfl
theorem aoT{n:Nat}{L:List ExV}(h:matV n L)(k:Nat):eK (3000*k) (ZE n L k):=apF (hi:=4604*k+1) (qQ (Qx h k) (by omega) (by omega))
theorem aeR{n:Nat}{L:List ExV}(h:matV n L):∀(k:Nat) {i j:Nat},i<n→j<n→mv (3000*k) (ZE n L k) n i j=aoS n (mv 3000 L n) k i j
 |0,i,j,hi,hj=>by
  rw[ZE,Nat.mul_zero,aEW hi hj];rfl
 |k+1,i,j,hi,hj=>by
  rw[ZE,Nat.mul_succ,aBb (aoT h k) (h.eK (by omega)) (jX k) h.len hi hj]
  exact qB fun t ht=>by rw[aeR h k hi ht]
theorem Ya{n:Nat}{L p:List ExV}(h:matV n L)(hp:∀x∈p,x.ok=true)(k:Nat)(hk:k≤12):eK 40000 (ju n L p k):=apF (hi:=60000+k) (qQ (adu h hp k hk) (by omega) (by omega))
theorem J9{n:Nat}{L p:List ExV}(h:matV n L)(hp:∀x∈p,x.ok=true):∀(k:Nat),k≤12→∀{i j:Nat},i<n→j<n→mv 40000 (ju n L p k) n i j=aJl n (fun t=>(p.getD t ex0).val 3000) (mv 3000 L n) k i j
 |0,_,i,j,hi,hj=>by
  have:=KL (K:=40000) (K':=0) (y:=ex0) (fun x hx=>by have:=(aab x hx).2.1;omega) (by show-((0:Nat):Int)≤0;omega) yn hi hj
  rw[YI,Int.mul_zero]at this
  rw[ju];exact this
 |k+1,hk,i,j,hi,hj=>by
  have oy:=aZj hp k
  have ey:=(jq oy).1.1
  have a:=Ya h hp k (by omega)
  have b:eK 40000 (qC n (ZE n L k) (p.getD k ex0)):=apF (hi:=60000) (qQ (Yi h hp k (by omega)) (by omega) (by omega))
  have b':eK (3000*k+3000) (qC n (ZE n L k) (p.getD k ex0)):=fun x hx=>by
   have:=(yT (jX k) (Qx h k) (Yl oy) x hx).2.1
   omega
  rw[ju,aJj a b (zV k) (by unfold qC;exact zn) hi hj,J9 h hp k (by omega) hi hj]
  show _=aJl n _ _ k i j+_
  congr 1
  have e1:=KL (aoT h k) (K':=3000) (y:=p.getD k ex0) (by omega) (jX k) hi hj
  have e2:=aOX (j':=40000-3000*(k+1)) (by unfold qC;exact zn) b' hi hj
  rw[show 3000*k+3000+(40000-3000*(k+1))=40000 by omega,e1,aeR h k hi hj]at e2
  rw[e2,Int.mul_comm (aoS n _ k i j)]
theorem bdS{p:List DyV}(h:p.all DyV.ok=true):∃q:List ExV,p=q.map ExV.dyv∧∀x∈q,x.ok=true:=by
 rw[List.all_eq_true]at h
 refine⟨p.map DyV.ex,?_,fun x hx=>?_⟩
 ·rw[List.map_map]
  conv=>lhs;rw[←List.map_id p]
  exact List.map_congr_left fun d hd=>(aCH (h d hd)).1
 ·obtain⟨d,hd,rfl⟩:=List.mem_map.1 hx
  exact(aCH (h d hd)).2
end Go.Ab
