/- What the proof of this claim stands on: the walks of the functions and the plain laws, part 5. -/
import Derived.Test.YtcobffkepgogiaaGreatDoorFnIvMatsLib4
set_option linter.unusedVariables false
set_option linter.unusedSimpArgs false
namespace Go.Ab
open Go Go.Proofs
instance (lo hi:Int)(x:ExV):Decidable (x.bd lo hi):=inferInstanceAs (Decidable ((x.m=0→x.s=false)∧lo≤x.e∧(bl x.m:Int)+x.e≤hi))
instance (lo hi:Int)(x:SpV):Decidable (x.bd lo hi):=inferInstanceAs (Decidable (x.lo.bd lo hi∧x.hi.bd lo hi))
instance (lo hi:Int)(l:List ExV):Decidable (gbd lo hi l):=inferInstanceAs (Decidable (∀x∈l,x.bd lo hi))
instance (lo hi:Int)(l:List SpV):Decidable (sbd lo hi l):=inferInstanceAs (Decidable (∀x∈l,x.bd lo hi))
def hB:List SpV:=(jM 1 [ex0] (ex1.shift 0)).map ptS
def hSt:Nat→List SpV×List SpV
 |0=>((gId 1).map ptS,(gId 1).map ptS)
 |i+1=>(zS (hSt i).1 ((qZ 1 (hSt i).2 hB).map fun s=>s.divd (i+1) (-22)),(qZ 1 (hSt i).2 hB).map fun s=>s.divd (i+1) (-22))
def aNp:List SpV:=(hSt 7).1.map fun s=>s.fat (ex1.shift (-22))
def aFx:List SpV:=aNp.map fun s=>s.out (-14)
theorem Z8:∀i,(hSt i).1.length=1∧(hSt i).2.length=1
 |0=>by decide+kernel
 |i+1=>⟨Qz.trans (Z8 i).1,by show(List.map _ _).length=1;rw[List.length_map];exact Qc⟩
theorem ap6:∀i,i<8→sbd (-100000) 100000 (hSt i).1∧sbd (-100000) 100000 (hSt i).2∧sbd (-100000) 100000 (qZ 1 (hSt i).2 hB):=by decide+kernel
theorem bdm:tmF 22=7:=by decide+kernel
set_option maxRecDepth 100000 in
theorem aq9(n:Nat)(h1:n=1):Con Tryz.prog 170 false [.ag [.v (.int .i64 (n)),.sl ([ex0]).length (qm ExV.cs ([ex0]))],.v (.int .i64 (-10))] [] (isA (.ag [.v (.int .i64 (n)),.sl (aFx).length (qm SpV.cs (aFx))])):=by
 refine Con.frzA ?_
 have hn:n≤4:=by omega
 have cn:=Y6 n [ex0] hn (by rw[h1];rfl) (by decide+kernel)
 rw[show yv n [ex0] n=ex0 by rw[h1];decide+kernel]at cn
 have cz:Con Tryz.prog 117 true [.ag [.v (.bool (ex0).s),.sl (lim (ex0).m).length (qc (lim (ex0).m)),.v (.int .i64 (ex0).e)]] [] (isA (.v (.bool true))):=Yg ex0.s ex0.m ex0.e
 have cs:=QZ ex1 0 (by decide) (by decide)
 have cg:=aes n [ex0] (ex1.shift 0) hn (by rw[h1];rfl) (by decide+kernel) (by decide+kernel)
 have cf:=Qf n (jM n [ex0] (ex1.shift 0)) (by show(gl _ _ _).length≤_;rw[yA,h1];decide)
 rw[show(jM n [ex0] (ex1.shift 0)).map ptS=hB by rw[h1];rfl]at cf
 have ci:=aMr n hn
 have cfi:=Qf n (gId n) (by show(gl _ _ _).length≤_;rw[yA,h1];decide)
 rw[show(gId n).map ptS=(hSt 0).1 by rw[h1];rfl]at cfi
 have ct:Con Tryz.prog 230 true [.v (.int .i64 (-22))] [] (isA (.v (.int .i64 7))):=by have:=aqG 22 (by omega);rw[bdm]at this;exact this
 have hw:(-10-2*0-12:Int)= -22:=rfl
 have cs2:=QZ ex1 (-22) (by decide) (by decide)
 have cft:=aDB n (hSt 7).1 (ex1.shift (-22)) (by rw[(Z8 7).1];decide) (zt (ap6 7 (by decide)).1 (by omega) (by omega)) (by decide+kernel)
 change Con _ _ _ _ _ (isA (.ag [.v (.int .i64 (n)),.sl (aNp).length (qm SpV.cs (aNp))]))at cft
 have cot:=aDA n aNp (-14) (by show(List.map _ _).length≤_;rw[List.length_map,(Z8 7).1];decide) (by decide+kernel) (by omega)
 change Con _ _ _ _ _ (isA (.ag [.v (.int .i64 (n)),.sl (aFx).length (qm SpV.cs (aFx))]))at cot
 generalize jM n [ex0] (ex1.shift 0)=G at*
 generalize gId n=I at*
 refine Con.of_w (rs:=[.cell 4 155]) Tryz.func170 rfl Tryz.ntmps170 rfl ?_
 simp(disch:=omega)only[go_sem]
 refine qa (cn) ?_
 simp(disch:=omega)only[go_sem]
 refine qh (cz) ?_
 simp(disch:=omega)only[go_sem]
 rw[hw]
 refine qp rfl [⟨0,[],[]⟩,⟨2,[0],[]⟩,⟨3,[0],[]⟩,⟨7,[0],[]⟩,⟨1,[0],[100000000]⟩,⟨4,[0],[100000000]⟩,⟨5,[],[100000000]⟩,⟨6,[],[100000000]⟩,⟨8,[],[]⟩] (by kernel_rfl) ?_
 simp(disch:=omega)only[go_sem]
 refine qa (Y5) ?_
 simp(disch:=omega)only[go_sem]
 refine qa (cs) ?_ (by simp(disch:=omega)only[go_sem,show(0-0:Int)=0 from rfl])
 simp(disch:=omega)only[go_sem]
 refine qa (cg) ?_
 simp(disch:=omega)only[go_sem]
 refine qa (cf) ?_
 simp(disch:=omega)only[go_sem]
 refine qa (ci) ?_
 simp(disch:=omega)only[go_sem]
 refine qa (cfi) ?_
 simp(disch:=omega)only[go_sem]
 refine qj (fun i:Nat=>[(1,.v (.int .i64 (-10))),(4,.pt 0 0),(6,.v (.int .i64 0)),(7,.v (.int .i64 (-22))),(8,.pt 1 0),(9,.pt 2 0),(10,.pt 3 0),(11,.v (.int .i64 ((i:Int)+1)))])
  (fun i=>[(0,.own 0 [.v (.int .i64 0),.v (.slice none 0 0)]),(1,.own 0 [.v (.int .i64 n),.sl hB.length (qm SpV.cs hB)]),(2,.own 0 [.v (.int .i64 n),.sl (hSt i).1.length (qm SpV.cs (hSt i).1)]),(3,.own 0 [.v (.int .i64 n),.sl (hSt i).2.length (qm SpV.cs (hSt i).2)])])
  (fun i=>i≤7) (fun i=>7-i) 0 (by omega)
  (Le.lst [(0,60000000),(1,100000000),(2,110000000),(3,120000000)] _ _ rfl (by simp(disch:=omega)only[go_sem,show(0:Int)+1=1 from rfl]) (by simp(disch:=omega)only[go_sem,show(hSt 0).2=(hSt 0).1 from rfl])) ?_
 intro i hi
 obtain⟨b1,b2,b3⟩:=ap6 i (by omega)
 obtain⟨l1,l2⟩:=Z8 i
 have ei:(i:Int)+1=((i+1:Nat):Int):=by omega
 have hBl:hB.length=1:=by decide+kernel
 have hBb:sbd (-190000) 190000 hB:=by decide+kernel
 have cT:=Yh n (hSt i).2 hB hn (by rw[h1,l2]) (by rw[h1,hBl]) (zt b2 (by omega) (by omega)) hBb
 rw[show qZ n (hSt i).2 hB=qZ 1 (hSt i).2 hB by rw[h1]]at cT
 have hTl:(qZ 1 (hSt i).2 hB).length=1:=Qc
 have cD:=aDC n (qZ 1 (hSt i).2 hB) (i+1) (-22) (by omega) b3 (by omega) (by omega) (by omega)
 rw[←ei]at cD
 change Con _ _ _ _ _ (isA (.ag [.v (.int .i64 (n)),.sl ((hSt (i+1)).2).length (qm SpV.cs ((hSt (i+1)).2))]))at cD
 simp(disch:=omega)only[go_sem]
 refine qh (ct) ?_
 simp(disch:=omega)only[go_sem]
 refine qe (fun h2=>?_) (fun h2=>?_)
 ·have b4:=(ap6 (i+1) (by omega)).2.1
  have cP:=aaJ n (hSt i).1 (hSt (i+1)).2 (by omega) (by rw[l1];exact(Z8 (i+1)).2) (zt b1 (by omega) (by omega)) (zt b4 (by omega) (by omega))
  change Con _ _ _ _ _ (isA (.ag [.v (.int .i64 (n)),.sl ((hSt (i+1)).1).length (qm SpV.cs ((hSt (i+1)).1))]))at cP
  generalize qZ 1 (hSt i).2 hB=T at*
  generalize hS2:(hSt (i+1)).2=S2 at*
  generalize hS1:(hSt (i+1)).1=S1 at*
  simp(disch:=omega)only[go_sem,h2]
  refine qa (cT) ?_
  simp(disch:=omega)only[go_sem]
  refine qa (cD) ?_
  simp(disch:=omega)only[go_sem]
  refine qa (cP) ?_
  simp(disch:=omega)only[go_sem]
  exact qb (i+1) [] (by show i+1≤7;omega) (by show 7-(i+1)<7-i;omega) rfl (by simp(disch:=omega)only[go_sem];try omega) (by simp(disch:=omega)only[go_sem,hS1,hS2])
 ·obtain rfl:i=7:=by omega
  simp(disch:=omega)only[go_sem,h2]
  refine qp rfl [⟨0,[],[]⟩,⟨2,[0],[]⟩,⟨1,[0],[]⟩,⟨3,[0],[]⟩,⟨4,[],[]⟩,⟨5,[],[]⟩] (by kernel_rfl) ?_
  simp(disch:=omega)only[go_sem]
  refine qa (Y5) ?_
  simp(disch:=omega)only[go_sem]
  refine qa (cs2) ?_
  simp(disch:=omega)only[go_sem]
  refine qa (cft) ?_
  simp(disch:=omega)only[go_sem]
  refine qj (fun _:Nat=>[(1,.v (.int .i64 (-10))),(4,.pt 0 0),(9,.pt 2 0),(58,.v (.int .i64 0)),(59,.v (.int .i64 0))])
   (fun _=>[(0,.own 0 [.v (.int .i64 0),.v (.slice none 0 0)]),(2,.own 0 [.v (.int .i64 n),.sl aNp.length (qm SpV.cs aNp)])]) (fun _=>True) (fun _=>0) 0 trivial (Le.lst [] _ _ rfl (by simp(disch:=omega)only[go_sem]) (by simp(disch:=omega)only[go_sem])) ?_
  intro _ _
  have q:decide ((0:Int)<0)=false:=rfl
  simp(disch:=omega)only[go_sem,q]
  refine qa (cot) ?_ (by simp(disch:=omega)only[go_sem,show(-10-4:Int)= -14 from rfl])
  simp(disch:=omega)only[go_sem]
  exact ql
end Go.Ab
namespace Go.Ab
open Go Go.Proofs
section
variable (g:Nat)(p:DyV→Bool)
theorem aki(x:DyV)(hf:Con Tryz.prog g true [.ag x.cs] [] (isA (.v (.bool (p x)))))(hg:qq Tryz.prog g=True):
  Con Tryz.prog 228 true [.ag x.cs,.fp [.fn g []] 0] [] (isA (.v (.bool (!p x)))):=by
 unfold DyV.cs at hf ⊢
 refine Con.of_w (rs:=[.tmp 3]) Tryz.func228 rfl Tryz.ntmps228 rfl ?_
 simp(disch:=omega)only[go_sem,hg]
 refine qz hf (by simp(disch:=omega)only[go_sem]) ?_
 rintro r hs ⟨rfl,rfl,_⟩
 refine⟨by simp[qO],?_⟩
 simp(disch:=omega)only[go_sem]
 exact qu
theorem aeq(f:Nat)(caps:List AV)(xs:List DyV)(hl:xs.length≤2^40)(hf:∀x∈xs,Con Tryz.prog f true (.ag x.cs::caps) [] (isA (.v (.bool (p x)))))(hg:qq Tryz.prog f=True)
  (hc:∀h:Nat→Ob,caps.map (qE h 6)=caps) (hc5:∀h:Nat→Ob,caps.map (qE h 5)=caps) (hn:∀ks,AllL (yj ks) caps) (hr:∀ρ,zK ρ caps=caps):
  Con Tryz.prog 266 true [.sl xs.length (qm DyV.cs xs),.fn f caps] [] (fun r hs bs=>∃i:Int,r=.v (.int .i64 i)∧hs=[]∧(0≤i↔∃x∈xs,p x=true)):=by
 refine Con.of_aw Tryz.func266 rfl Tryz.ntmps266 (by simp) (by simp) (by simp) (W.sound ?_)
 show @W Tryz.prog 19 ⟨_⟩ ⟨fun x σ=>@qR _ _ _ ⟨_⟩ _ ⟨_⟩ x σ⟩ _ _
 simp(disch:=omega)only[go_sem]
 refine qj (fun i:Nat=>[(0,.sl xs.length (qm DyV.cs xs)),(1,.fn f caps),(6,.sl xs.length (qm DyV.cs xs)),(7,.v (.int .i64 xs.length)),(8,.v (.int .i64 i))])
  (fun _=>[]) (fun i=>i≤xs.length∧∀j,j<i→p (xs.getD j ⟨false,[],0⟩)=false) (fun i=>xs.length-i) 0 ⟨by omega,fun j hj=>by omega⟩ (Le.lst [] _ _ rfl (by simp(disch:=omega)only[go_sem,hr,hn]) (by simp(disch:=omega)only[go_sem])) ?_
 rintro i ⟨hi,hp⟩
 simp(disch:=omega)only[go_sem]
 refine qe (fun h1=>?_) (fun h1=>?_)
 ·have hcut:=ZT (l:=xs) aFI (i:=i) (by omega) ⟨false,[],0⟩
  simp(disch:=omega)only[go_sem,h1,hcut,hg]
  refine⟨by omega,by omega,qz (hf (xs.getD i ⟨false,[],0⟩) (by rw[List.getD_eq_getElem?_getD,List.getElem?_eq_getElem (by omega)];exact List.getElem_mem _)) (by simp(disch:=omega)only[go_sem,hc,hc5]) ?_⟩
  rintro r hs ⟨rfl,rfl,_⟩
  refine⟨by simp[qO],?_⟩
  simp(disch:=omega)only[go_sem]
  refine yU (fun h2=>?_) (fun h2=>?_)
  ·simp(disch:=omega)only[go_sem,h2]
   refine qx (by simp(disch:=omega)only[go_sem]) (by simp(disch:=omega)only[go_sem]) ⟨i,rfl,rfl,?_⟩
   refine⟨fun _=>⟨_,?_,h2⟩,fun _=>by omega⟩
   rw[List.getD_eq_getElem?_getD,List.getElem?_eq_getElem (by omega)];exact List.getElem_mem _
  ·simp(disch:=omega)only[go_sem,h2]
   refine qb (i+1) [] ⟨by omega,fun j hj=>?_⟩ (by show xs.length-(i+1)<xs.length-i;omega) rfl (by simp(disch:=omega)only[go_sem,hr,hn];try omega) (by simp(disch:=omega)only[go_sem])
   rcases(by omega:j<i∨j=i)with h|h
   ·exact hp j h
   ·subst h;exact h2
 ·simp(disch:=omega)only[go_sem,h1]
  refine qx (by simp(disch:=omega)only[go_sem]) (by simp(disch:=omega)only[go_sem]) ⟨-1,rfl,rfl,?_⟩
  refine⟨fun h=>by omega,fun⟨x,hx,hpx⟩=>?_⟩
  obtain⟨j,hj,rfl⟩:=List.getElem_of_mem hx
  have:=hp j (by omega)
  rw[List.getD_eq_getElem?_getD,List.getElem?_eq_getElem hj]at this
  simp only[Option.getD_some]at this
  rw[this]at hpx;cases hpx
theorem JG(f:Nat)(caps:List AV)(xs:List DyV)(hl:xs.length≤2^40)(hf:∀x∈xs,Con Tryz.prog f true (.ag x.cs::caps) [] (isA (.v (.bool (p x)))))(hg:qq Tryz.prog f=True)
  (hc:∀h:Nat→Ob,caps.map (qE h 6)=caps) (hc5:∀h:Nat→Ob,caps.map (qE h 5)=caps) (hn:∀ks,AllL (yj ks) caps) (hr:∀ρ,zK ρ caps=caps):
  Con Tryz.prog 227 true [.sl xs.length (qm DyV.cs xs),.fn f caps] [] (isA (.v (.bool (xs.any p)))):=by
 refine Con.of_aw Tryz.func227 rfl Tryz.ntmps227 (by simp) (by simp) (by simp) (W.sound ?_)
 show @W Tryz.prog 9 ⟨_⟩ ⟨fun x σ=>@qR _ _ _ ⟨_⟩ _ ⟨_⟩ x σ⟩ _ _
 simp(disch:=omega)only[go_sem]
 refine qz (aeq p f caps xs hl hf hg hc hc5 hn hr) (by simp(disch:=omega)only[go_sem,hc,hc5]) ?_
 rintro r hs ⟨i,rfl,rfl,hi⟩
 refine⟨by simp[qO],?_⟩
 simp(disch:=omega)only[go_sem]
 refine qx (by simp(disch:=omega)only[go_sem]) (by simp(disch:=omega)only[go_sem]) ⟨?_,rfl,rfl⟩
 have:decide (0≤i)=xs.any p:=by rw[Bool.eq_iff_iff,decide_eq_true_eq,hi,List.any_eq_true]
 rw[this];rfl
theorem arj(xs:List DyV)(hl:xs.length≤2^40)(hf:∀x∈xs,Con Tryz.prog g true [.ag x.cs] [] (isA (.v (.bool (p x)))))(hg:qq Tryz.prog g=True):
  Con Tryz.prog 164 true [.sl xs.length (qm DyV.cs xs),.fn g []] [] (isA (.v (.bool (xs.all p)))):=by
 refine Con.of_aw Tryz.func164 rfl Tryz.ntmps164 (by simp) (by simp) (by simp) (W.sound ?_)
 show @W Tryz.prog 9 ⟨_⟩ ⟨fun x σ=>@qR _ _ _ ⟨_⟩ _ ⟨_⟩ x σ⟩ _ _
 simp(disch:=omega)only[go_sem]
 refine qz (JG (fun x=> !p x) 228 [.fp [.fn g []] 0] xs hl (fun x hx=>aki g p x (hf x hx) hg) (by simp(disch:=omega)only[go_sem]) (fun h=>rfl) (fun h=>rfl) (fun ks=>by simp(disch:=omega)only[go_sem]) (fun ρ=>rfl)) (by simp(disch:=omega)only[go_sem]) ?_
 rintro r hs ⟨rfl,rfl,_⟩
 refine⟨by simp[qO],?_⟩
 simp(disch:=omega)only[go_sem]
 refine qx (by simp(disch:=omega)only[go_sem]) (by simp(disch:=omega)only[go_sem]) ⟨?_,rfl,rfl⟩
 have:(!xs.any fun x=> !p x)=xs.all p:=by rw[List.all_eq_not_any_not]
 rw[this];rfl
end
def DyV.ok(x:DyV):Bool:=dyB x.s x.xs x.e
theorem Yi(xs:List DyV)(hl:xs.length≤2^40)(hx:∀x∈xs,x.xs.length≤2^40):Con Tryz.prog 81 true [.sl xs.length (qm DyV.cs xs)] [] (isA (.v (.bool (xs.all DyV.ok)))):=by
 refine Con.of_w (rs:=[.tmp 2]) Tryz.func81 rfl Tryz.ntmps81 rfl ?_
 simp(disch:=omega)only[go_sem]
 refine qh (arj 92 DyV.ok xs hl (fun x h=>aDD x.s x.xs x.e (hx x h)) (by simp(disch:=omega)only[go_sem])) ?_
 simp(disch:=omega)only[go_sem]
 exact qu
def aFq(n:Int)(l:List DyV):Bool:=(decide (1≤n)&&decide (n≤4))&&(decide ((l.length:Int)=n*n)&&l.all DyV.ok)
theorem ark(n:Int)(l:List DyV)(hl:l.length≤2^40)(hx:∀x∈l,x.xs.length≤2^40):Con Tryz.prog 80 true [.ag [.v (.int .i64 n),.sl l.length (qm DyV.cs l)]] [] (isA (.v (.bool (aFq n l)))):=by
 unfold aFq
 cases h1:(decide (1≤n)&&decide (n≤4))
 ·rw[Bool.false_and]
  refine Con.of_w (rs:=[.tmp 2]) Tryz.func80 rfl Tryz.ntmps80 rfl ?_
  simp(disch:=omega)only[go_sem]
  refine qh (zn n 1 4) ?_
  simp(disch:=omega)only[go_sem]
  simp(disch:=omega)only[go_sem,h1]
  exact qu
 ·rw[Bool.true_and]
  have h1':1≤n∧n≤4:=by simpa using h1
  have hq:0≤n*n∧n*n≤16:=⟨Int.mul_nonneg (by omega) (by omega),Int.mul_le_mul h1'.2 h1'.2 (by omega) (by omega)⟩
  cases h2:decide ((l.length:Int)=n*n)
  ·rw[Bool.false_and]
   refine Con.of_w (rs:=[.tmp 2]) Tryz.func80 rfl Tryz.ntmps80 rfl ?_
   simp(disch:=omega)only[go_sem]
   refine qh (zn n 1 4) ?_
   simp(disch:=omega)only[go_sem]
   simp(disch:=omega)only[go_sem,h1,h2]
   exact qu
  ·rw[Bool.true_and]
   refine Con.of_w (rs:=[.tmp 2]) Tryz.func80 rfl Tryz.ntmps80 rfl ?_
   simp(disch:=omega)only[go_sem]
   refine qh (zn n 1 4) ?_
   simp(disch:=omega)only[go_sem]
   simp(disch:=omega)only[go_sem,h1,h2]
   refine qh (Yi l hl hx) ?_
   simp(disch:=omega)only[go_sem]
   exact qu
end Go.Ab
namespace Go.Ab
open Go Go.Proofs
def ExV.dy(x:ExV):DyV:=⟨x.s,lim x.m,x.e⟩
theorem aOr(l:List ExV):qm ExV.cs l=qm DyV.cs (l.map ExV.dy):=by unfold qm;rw[List.map_map];rfl
def ExV.ok(x:ExV):Bool:=dyB x.s (lim x.m) x.e
def aK2(n:Int)(l:List ExV):Bool:=(decide (1≤n)&&decide (n≤4))&&(decide ((l.length:Int)=n*n)&&l.all ExV.ok)
theorem aK1(n:Int)(l:List ExV):aFq n (l.map ExV.dy)=aK2 n l:=by
 unfold aFq aK2
 rw[List.length_map,List.all_map];rfl
theorem Yj(n:Int)(l:List ExV)(hl:l.length≤2^40)(hx:∀x∈l,(lim x.m).length≤2^40):Con Tryz.prog 80 true [.ag [.v (.int .i64 n),.sl l.length (qm ExV.cs l)]] [] (isA (.v (.bool (aK2 n l)))):=by
 have:=ark n (l.map ExV.dy) (by rw[List.length_map];exact hl) (fun x h=>by
  obtain⟨y,hy,rfl⟩:=List.mem_map.1 h
  exact hx y hy)
 rw[aK1,←aOr,List.length_map]at this
 exact this
theorem Qr{x:ExV}(h:x.ok=true):x.bd (-3000) 4600:=by
 obtain⟨m,e1,h1,h2,h3,_,h4⟩:=QW h
 have e2:x.m=m:=yy e1
 subst e2
 exact⟨h4,by omega,by omega⟩
def ajt(F:List SpV)(X:List ExV)(k:Nat):List ExV:=(List.range k).map fun i=>zp [((F.getD i sp0).hi.plus (X.getD i ex0).neg).abs,((X.getD i ex0).plus (F.getD i sp0).lo.neg).abs]
theorem Qs{F:List SpV}{X:List ExV}{k:Nat}:(ajt F X k).length=k:=by simp[ajt]
theorem apm{F:List SpV}{X:List ExV}{k:Nat}:ajt F X (k+1)=ajt F X k++[zp [((F.getD k sp0).hi.plus (X.getD k ex0).neg).abs,((X.getD k ex0).plus (F.getD k sp0).lo.neg).abs]]:=by simp[ajt,List.range_succ]
theorem apl{lo hi:Int}{s:SpV}{x:ExV}(hs:s.bd lo hi)(hx:x.bd lo hi):gbd lo (hi+1) [(s.hi.plus x.neg).abs,(x.plus s.lo.neg).abs]:=by
 intro y hy
 simp only[List.mem_cons,List.not_mem_nil,or_false]at hy
 rcases hy with rfl|rfl
 ·exact ExV.abs_bd (ExV.plus_bd hs.2 (ExV.neg_bd hx))
 ·exact ExV.abs_bd (ExV.plus_bd hx (ExV.neg_bd hs.1))
theorem aKw{lo hi:Int}{F:List SpV}{X:List ExV}{k:Nat}(hF:sbd lo hi F)(hX:gbd lo hi X)(h1:k≤F.length)(h2:k≤X.length):gbd lo (hi+1) (ajt F X k):=by
 intro y hy
 simp only[ajt,List.mem_map,List.mem_range]at hy
 obtain⟨i,hi,rfl⟩:=hy
 exact Zz (apl (jk hF (by omega)) (q7 hX (by omega))) (by simp)
def afl(n:Nat)(F:List SpV)(low:Int):List ExV:=aLx n (F.map yp) low 0
def jW(n:Nat)(F:List SpV)(low:Int):ExV:=yv n (ajt F (afl n F low) (n*n)) n
theorem apA{lo hi:Int}{s:SpV}(hs:s.bd lo hi):(yp s).bd (lo-1) hi:=by
 have:=ExV.shift_bd (k:= -1) (ExV.plus_bd hs.1 hs.2)
 exact this.mono (by omega) (by omega)
theorem aLw{lo hi low mode:Int}{n:Nat}{l:List ExV}(hl:l.length=n*n)(h:gbd lo hi l)(h1:lo≤low)(h2:low≤hi):gbd lo (hi+1) (aLx n l low mode):=
 aLs fun i j hi hj=>ExV.rnd_bd (q7 h (by rw[hl];exact zX hi hj)) h1 h2
set_option maxRecDepth 100000 in
set_option maxHeartbeats 2000000 in
theorem aeA(n:Nat)(L:List ExV)(low:Int)(F:List SpV)(hn:n≤4)(hL:L.length=n*n)(hlow: -1000≤low∧low≤1000)(ca:Con Tryz.prog 146 true [.ag [.v (.int .i64 (n)),.sl (L).length (qm ExV.cs (L))],.v (.int .i64 low)] [] (isA (.v (.bool true))))
  (ch:Con Tryz.prog 170 false [.ag [.v (.int .i64 (n)),.sl (L).length (qm ExV.cs (L))],.v (.int .i64 low)] [] (isA (.ag [.v (.int .i64 (n)),.sl (F).length (qm SpV.cs (F))]))) (hF:F.length=n*n) (hFb:sbd (-300000) 300000 F) (hfit:F.all SpV.fit=true):
  Con Tryz.prog 89 false [.ag [.v (.int .i64 (n)),.sl (L).length (qm ExV.cs (L))],.v (.int .i64 low)] []
   (isA (if((afl n F low).all ExV.fit&&(jW n F low).fit)=true then .tu [.ag [.v (.int .i64 n),.sl (afl n F low).length (qm ExV.cs ((afl n F low).map ExV.can))],.ag [.v (.bool ((jW n F low).can).s),.sl (lim ((jW n F low).can).m).length (qc (lim ((jW n F low).can).m)),.v (.int .i64 ((jW n F low).can).e)],.v (.bool true)]else .tu [.ag [.v (.int .i64 0),.sl 0 []],.ag [.v (.bool (false)),.sl (lim (0)).length (qc (lim (0))),.v (.int .i64 (0))],.v (.bool false)])):=by
 refine Con.frzA ?_
 have hq:=yn hn
 have cg:=zN n L (by omega)
 have cv:=aaF n F (by omega) (zt hFb (by omega) (by omega))
 rw[hfit,if_pos rfl]at cv
 have cm:=aqS n F (by omega) (zt hFb (by omega) (by omega))
 have hml:(F.map yp).length=n*n:=by rw[List.length_map,hF]
 have hmb:gbd (-300001) 300000 (F.map yp):=by
  intro x hx
  obtain⟨s,hs,rfl⟩:=List.mem_map.1 hx
  exact(apA (hFb s hs)).mono (by omega) (by omega)
 have cr:=aDx n (F.map yp) low 0 hn hml (yQ hmb (by omega) (by omega)) (by omega)
 have hXl:(afl n F low).length=n*n:=by unfold afl aLx;exact yA
 have hXb:gbd (-300001) 300001 (afl n F low):=aLw hml hmb (by omega) (by omega)
 change Con _ _ _ _ _ (isA (.ag [.v (.int .i64 (n)),.sl (afl n F low).length (qm ExV.cs (afl n F low))]))at cr
 have hOb:gbd (-300001) 300002 (ajt F (afl n F low) (n*n)):=aKw (zt hFb (by omega) (by omega)) hXb (by omega) (by omega)
 have cno:=Y6 n (ajt F (afl n F low) (n*n)) hn Qs (yQ hOb (by omega) (by omega))
 change Con _ _ _ _ _ (isA (.ag [.v (.bool (jW n F low).s),.sl (lim (jW n F low).m).length (qc (lim (jW n F low).m)),.v (.int .i64 (jW n F low).e)]))at cno
 have hFar:(jW n F low).bd (-300001) 300006:=(YC Qs hOb (by omega) n (Nat.le_refl _)).mono (by omega) (by omega)
 have cw:=JE n (afl n F low) (jW n F low) (by omega) (yQ hXb (by omega) (by omega)) (hFar.mono (by omega) (by omega))
 generalize jW n F low=far at*
 generalize afl n F low=X at*
 generalize F.map yp=M at*
 generalize F.map SpV.can=FC at*
 refine Con.of_w (rs:=[.cell 4 25,.cell 5 40,.tmp 6]) Tryz.func89 rfl Tryz.ntmps89 rfl ?_
 simp(disch:=omega)only[go_sem]
 refine qh (ca) ?_
 simp(disch:=omega)only[go_sem]
 refine qa (cg) ?_
 simp(disch:=omega)only[go_sem]
 refine qa (ch) ?_
 simp(disch:=omega)only[go_sem]
 refine qa (cv) ?_
 simp(disch:=omega)only[go_sem]
 refine qa (cm) ?_
 simp(disch:=omega)only[go_sem]
 refine qa (cr) ?_
 simp(disch:=omega)only[go_sem]
 refine qj (fun i:Nat=>[(4,.pt 2 0),(5,.pt 3 0),(7,.pt 4 0),(10,.pt 5 0),(11,.pt 0 0),(41,.sl F.length (qm SpV.cs F)),(42,.v (.int .i64 F.length)),(43,.v (.int .i64 i))])
  (fun i=>[(0,.own 0 [.v (.int .i64 n),.rf 1 0 i]),(1,.own 3 (qm ExV.cs (ajt F X i))),(2,.own 0 [.v (.int .i64 0),.v (.slice none 0 0)]),(3,.own 0 [.v (.bool false),.v (.slice none 0 0),.v (.int .i64 0)]),(4,.own 0 [.v (.int .i64 n),.sl F.length (qm SpV.cs F)]),(5,.own 0 [.v (.int .i64 n),.sl X.length (qm ExV.cs X)])])
  (fun i=>i≤F.length) (fun i=>F.length-i) 0 (by omega)
  ((Le.ghostC 130000000 1 1 3 (zo:=0) (cs:=[.v (.int .i64 n),.v (.slice none 0 0)]) (by simp(disch:=omega)only[go_sem]) rfl (by simp(disch:=omega)only[go_sem])).trans (Le.lst [(0,130000000),(2,60000000),(3,70000000),(4,90000000),(5,120000000)] _ _ rfl (by simp(disch:=omega)only[go_sem]) (by simp(disch:=omega)only[go_sem,show ajt F X 0=[] from rfl,Jd,List.set_cons_succ,List.set_cons_zero]))) ?_
 intro i hi
 simp(disch:=omega)only[go_sem]
 refine qe (fun h1=>?_) (fun h1=>?_)
 ·have hi2:i<F.length:=by omega
  have hci:=j7 hi2
  have hcx:=z7 (l:=X) (i:=i) (by omega)
  have hcut:=zC (Qs (F:=F) (X:=X) (k:=i))
  have hs:=apm (F:=F) (X:=X) (k:=i)
  have bs:=jk hFb hi2
  have bx:=q7 hXb (show i<X.length by omega)
  have b2:=apl (SpV.bd.mono bs (by omega) (by omega)) bx
  generalize F.getD i sp0=s at*
  generalize X.getD i ex0=x at*
  simp(disch:=omega)only[go_sem,h1,hci]
  refine⟨by omega,by omega,?_⟩
  refine qp rfl [⟨0,[],[]⟩,⟨1,[],[]⟩,⟨2,[1],[]⟩,⟨3,[1],[]⟩,⟨4,[1,3],[]⟩,⟨5,[1,3],[]⟩,⟨6,[1,3,5],[]⟩,⟨7,[1,3],[]⟩,⟨8,[1,3],[]⟩,⟨11,[1,3,5,8],[]⟩,⟨12,[1,3,5,8],[]⟩,⟨13,[1,3,5,8,12],[]⟩,⟨14,[1,3,5,8],[]⟩,⟨15,[1,3,5,8],[]⟩,⟨16,[1,3,5,8,12,15],[]⟩,⟨17,[1,3,5,8,12,15],[]⟩,⟨9,[1,12,15,17],[]⟩,⟨10,[1,12,15,17],[]⟩,⟨18,[1],[]⟩,⟨19,[1],[]⟩,⟨20,[1],[]⟩,⟨21,[1],[]⟩,⟨22,[1],[]⟩,⟨23,[],[]⟩,⟨24,[],[]⟩,⟨25,[],[]⟩] (by kernel_rfl) ?_
  simp(disch:=omega)only[go_sem,hcx]
  refine⟨by omega,by omega,by omega,by omega,?_⟩
  refine qa (Q1 s.hi x (bs.2.mono (by omega) (by omega)) (bx.mono (by omega) (by omega))) ?_
  simp(disch:=omega)only[go_sem]
  refine qa (Xd (s.hi.plus x.neg)) ?_
  simp(disch:=omega)only[go_sem]
  refine qa (Q1 x s.lo (bx.mono (by omega) (by omega)) (bs.1.mono (by omega) (by omega))) ?_
  simp(disch:=omega)only[go_sem]
  refine qa (Xd (x.plus s.lo.neg)) ?_
  simp(disch:=omega)only[go_sem]
  generalize (s.hi.plus x.neg).abs=A at*
  generalize (x.plus s.lo.neg).abs=B at*
  have hrow:([.v (.bool A.s),.sl (lim A.m).length (qc (lim A.m)),.v (.int .i64 A.e),.v (.bool B.s),.sl (lim B.m).length (qc (lim B.m)),.v (.int .i64 B.e)]:List AV)=qm ExV.cs [A,B]:=rfl
  rw[hrow]
  refine za false [700000000] (aaz [A,B] (by simp) (by simp) (yQ b2 (by omega) (by omega))) (by simp(disch:=omega)only[go_sem]) (by simp(disch:=omega)only[go_sem]) rfl (qQ (z:=3) (cs:=qm ExV.cs [A,B]) (by simp(disch:=omega)only[go_sem]) (by simp(disch:=omega)only[go_sem])) (by intro n hn;exact⟨_,List.mem_cons_self ..,by rw[List.mem_singleton.1 hn];rfl⟩) ?_
  rintro r hs2 bs2 ⟨rfl,rfl,rfl⟩-
  refine⟨by simp[qO],?_⟩
  simp(disch:=omega)only[go_sem,hcut,QA]
  refine⟨⟨by rw[Qs];exact Nat.le_refl _,by omega⟩,qb (i+1) [(1,730000000)] (by show i+1≤_;omega) (by show F.length-(i+1)<F.length-i;omega) rfl (by simp(disch:=omega)only[go_sem];try omega) (by simp(disch:=omega)only[go_sem,hs])⟩
 ·simp(disch:=omega)only[go_sem,h1]
  obtain rfl:i=F.length:=by omega
  have hol:=Qs (F:=F) (X:=X) (k:=n*n)
  rw[hF]
  generalize ajt F X (n*n)=O at*
  rw[hol]at cno
  refine aMm (E:=[(4,.pt 2 0),(5,.pt 3 0),(10,.pt 5 0),(11,.pt 0 0)]) (H:=[(0,.own 0 [.v (.int .i64 n),.sl (n*n) (qm ExV.cs O)]),(2,.own 0 [.v (.int .i64 0),.v (.slice none 0 0)]),(3,.own 0 [.v (.bool false),.v (.slice none 0 0),.v (.int .i64 0)]),(5,.own 0 [.v (.int .i64 n),.sl X.length (qm ExV.cs X)])])
   ((Le.frz 1 (z:=3) (ks:=qm ExV.cs O) (by simp(disch:=omega)only[go_sem]) rfl (by simp(disch:=omega)only[go_sem])).trans (Le.lst [] _ _ rfl (by simp(disch:=omega)only[go_sem]) (by simp(disch:=omega)only[go_sem,zC hol]))) ?_
  refine qp rfl [⟨0,[],[]⟩,⟨1,[0],[]⟩,⟨2,[0],[]⟩,⟨3,[],[]⟩,⟨4,[],[]⟩,⟨5,[],[]⟩,⟨6,[],[]⟩,⟨7,[],[]⟩,⟨8,[],[]⟩,⟨9,[],[]⟩] (by kernel_rfl) ?_
  simp(disch:=omega)only[go_sem]
  refine qa (cno) ?_
  simp(disch:=omega)only[go_sem]
  cases hc:(X.all ExV.fit&&far.fit)
  ·rw[hc,if_neg (by simp)]at cw
   rw[if_neg (by simp)]
   refine qa (cw) ?_
   simp(disch:=omega)only[go_sem]
   exact ql (hp:=by simp(disch:=omega)only[go_sem,qo,List.length_nil,jp])
  ·rw[hc,if_pos rfl]at cw
   rw[if_pos rfl]
   refine qa (cw) ?_
   simp(disch:=omega)only[go_sem]
   exact ql
theorem aaH(n:Nat)(h1:n=1):Con Tryz.prog 146 true [.ag [.v (.int .i64 (n)),.sl ([ex0]).length (qm ExV.cs ([ex0]))],.v (.int .i64 (-10))] [] (isA (.v (.bool true))):=by
 have cm:=Yj n [ex0] (by decide) (by intro x hx;rw[List.mem_singleton.1 hx];show(lim 0).length≤_;rw[qo];decide)
 have hm:aK2 n [ex0]=true:=by
  rw[h1];unfold aK2;rw[List.all_cons,List.all_nil,show ex0.ok=true by show dyB false (lim 0) 0=true;rw[qo];decide];decide
 rw[hm]at cm
 have cg:=zN n [ex0] (by decide)
 have cn:=Y6 n [ex0] (by omega) (by rw[h1];rfl) (by decide+kernel)
 rw[show yv n [ex0] n=ex0 by rw[h1];decide+kernel]at cn
 have cc:=yg ex0 (exN 64) (by decide+kernel) (by decide+kernel)
 rw[show ex0.cmp (exN 64)= -1 by decide+kernel]at cc
 have q:decide ((-1:Int)≤0)=true:=rfl
 have q1:(decide ((-120:Int)≤ -10)&&decide ((-10:Int)≤0))=true:=rfl
 have cwi:=zn (-10) (-120) 0
 rw[q1]at cwi
 refine Con.of_w (rs:=[.tmp 4]) Tryz.func146 rfl Tryz.ntmps146 rfl ?_
 simp(disch:=omega)only[go_sem]
 refine qh (cm) ?_
 simp(disch:=omega)only[go_sem]
 refine qh (cwi) ?_
 simp(disch:=omega)only[go_sem]
 refine qa (cg) ?_
 simp(disch:=omega)only[go_sem]
 refine qa (cn) ?_
 simp(disch:=omega)only[go_sem]
 refine qa (zD 64 (by omega)) ?_
 simp(disch:=omega)only[go_sem]
 refine qz cc (by simp(disch:=omega)only[go_sem,exN]) ?_
 rintro r hs ⟨rfl,rfl,_⟩
 refine⟨by simp[qO],?_⟩
 simp(disch:=omega)only[go_sem,q]
 exact qu
end Go.Ab
namespace Go.Ab
open Go Go.Proofs
theorem jw(cl:Bool)(xs:List Int)(m:Nat)(hl:xs.length≤2^39)(hx:gd xs)(hv:vl xs=(m:Int)):Con Tryz.prog 276 cl [.sl xs.length (qc xs)] [] (aFp m):=by
 refine Con.of_aw Tryz.func276 rfl Tryz.ntmps276 (by simp) (by simp) (by simp) (W.sound ?_)
 show @W Tryz.prog 24 ⟨_⟩ ⟨fun x σ=>@qR _ _ _ ⟨_⟩ _ ⟨_⟩ x σ⟩ _ _
 simp(disch:=omega)only[go_sem]
 have hcz:Jj xs=lim m:=by rw[jb hx,hv,Int.toNat_natCast]
 refine qj (fun k:Nat=>[(0,.sl xs.length (qc xs)),(2,.pt 40000000 0),(3,.v (.int .i64 k))]) (fun _=>[(40000000,.own 0 [.v (.slice none 0 0)])]) (fun k=>k≤xs.length∧Jj (xs.take k)=Jj xs) id xs.length ⟨Nat.le_refl _,by simp⟩
  (Le.lst [] _ _ rfl (by simp(disch:=omega)only[go_sem]) (by simp(disch:=omega)only[go_sem])) ?_
 intro k ⟨hk,hc⟩
 have hkx:∀j,j+1=k→xs.take k=xs.take j++[xs.getD j 0]:=fun j hj=>by rw[←hj];exact jR (by omega)
 simp(disch:=omega)only[go_sem]
 refine qe (fun h1=>?_) (fun h1=>?_)
 ·obtain⟨j,rfl⟩:∃j,k=j+1:=⟨k-1,by omega⟩
  have e1:((j+1:Nat):Int)-1=(j:Nat):=by omega
  rw[hkx j rfl]at hc
  simp(disch:=omega)only[go_sem,h1,e1]
  refine⟨by omega,by omega,qe (fun h2=>?_) (fun h2=>?_)⟩
  ·simp(disch:=omega)only[go_sem,h2,e1]
   rw[h2,QC]at hc
   exact qb j [] ⟨by omega,hc⟩ (by show j<j+1;omega) rfl (by simp(disch:=omega)only[go_sem];try omega) (by simp(disch:=omega)only[go_sem])
  ·rw[Y1 _ h2,←hkx j rfl,hcz]at hc
   have hlm:j+1=(lim m).length:=by rw[←hc,List.length_take];omega
   have e0:(((j+1:Nat):Int)-0).toNat=(lim m).length:=by omega
   rw[hlm]at hc
   simp(disch:=omega)only[go_sem,h2,e0,hc]
   refine⟨by omega,by omega,?_⟩
   refine qg [(0,240000000)] [.own 1 (qc (lim m))] [] [.ag [.rf 0 0 (lim m).length]] rfl (by simp(disch:=omega)only[go_sem]) (by simp(disch:=omega)only[go_sem]) (by simp) (by intro _;simp[zg,AV.pu,AV.pu.puL,Ob.pu,qX]) (.inr ⟨[],rfl,by rw[List.append_nil]⟩)
 ·have hlm:k=(lim m).length:=by
   have:k=0:=by omega
   rw[←hcz,←hc,this];rfl
  subst hlm
  have hc:xs.take (lim m).length=lim m:=by
   have:lim m=[]:=List.length_eq_zero_iff.1 (by omega)
   rw[this];simp
  have e0:(((lim m).length:Int)-0).toNat=(lim m).length:=by omega
  simp(disch:=omega)only[go_sem,h1,e0,hc]
  refine⟨by omega,by omega,?_⟩
  refine qg [(0,240000000)] [.own 1 (qc (lim m))] [] [.ag [.rf 0 0 (lim m).length]] rfl (by simp(disch:=omega)only[go_sem]) (by simp(disch:=omega)only[go_sem]) (by simp) (by intro _;simp[zg,AV.pu,AV.pu.puL,Ob.pu,qX]) (.inr ⟨[],rfl,by rw[List.append_nil]⟩)
theorem Y8(cl:Bool)(n:Nat)(hn:n<2^63):Con Tryz.prog 259 cl [.v (.int .i64 n)] [] (aFp n):=by
 refine Con.of_aw Tryz.func259 rfl Tryz.ntmps259 (by simp) (by simp) (by simp) (W.sound ?_)
 show @W Tryz.prog 15 ⟨_⟩ ⟨fun x σ=>@qR _ _ _ ⟨_⟩ _ ⟨_⟩ x σ⟩ _ _
 simp(disch:=omega)only[go_sem]
 refine qj (fun x:Nat×List Int=>[(0,.v (.int .i64 x.1)),(2,.pt 2 0),(3,.rf 1 0 x.2.length)]) (fun x=>[(1,.own 1 (qc x.2)),(2,.own 0 [.v (.slice none 0 0)])]) (fun x=>x.1<2^63∧x.2++lim x.1=lim n) (fun x=>x.1) (n,[]) ⟨hn,rfl⟩
  ((Le.ghost 3 1 1 (by simp(disch:=omega)only[go_sem]) (by simp(disch:=omega)only[go_sem])).trans (Le.lst [(2,40000000)] _ _ rfl (by simp(disch:=omega)only[go_sem]) (by simp(disch:=omega)only[go_sem]))) ?_
 rintro⟨k,l⟩ ⟨hk,hl⟩
 dsimp only at hk hl ⊢
 have hlen:l.length≤4:=by
  have h1:=congrArg List.length hl
  have h2:=jL (n:=n) (k:=4) |>.2 (by omega)
  rw[List.length_append]at h1;omega
 simp(disch:=omega)only[go_sem]
 refine qe (fun h1=>?_) (fun h1=>?_)
 ·simp(disch:=omega)only[go_sem,h1]
  have hk0:k≠0:=by omega
  refine⟨by omega,qb (k/65536,l++[(k:Int) % 65536]) [(1,120000000)] ⟨by show k/65536<2^63;omega,?_⟩ (by show k/65536<k;omega) rfl (by simp(disch:=omega)only[go_sem,List.length_append];try omega) (by simp(disch:=omega)only[go_sem])⟩
  rw[yd hk0]at hl
  rw[←hl,List.append_assoc];rfl
 ·simp(disch:=omega)only[go_sem,h1]
  have hk0:k=0:=by omega
  subst hk0
  rw[qo,List.append_nil]at hl
  subst hl
  refine qg [(0,1)] [.own 1 (qc (lim n++[]))] [] [.ag [.rf 0 0 (lim n).length]] rfl (by simp(disch:=omega)only[go_sem]) (by simp(disch:=omega)only[go_sem]) (by simp) (by intro _;simp[zg,AV.pu,AV.pu.puL,Ob.pu,qX]) (.inr ⟨[],rfl,rfl⟩)
end Go.Ab
namespace Go.Ab
open Go Go.Proofs
set_option maxRecDepth 100000 in
theorem aq6(cl:Bool)(a b:Nat)(la:(lim a).length≤2000000)(lb:(lim b).length≤2000000):Con Tryz.prog 258 cl [.ag [.sl (lim (a)).length (qc (lim (a)))],.ag [.sl (lim (b)).length (qc (lim (b)))]] [] (aFp (a+b)):=by
 refine Con.of_aw Tryz.func258 rfl Tryz.ntmps258 (by simp) (by simp) (by simp) (W.sound ?_)
 show @W Tryz.prog 61 ⟨_⟩ ⟨fun x σ=>@qR _ _ _ ⟨_⟩ _ ⟨_⟩ x σ⟩ _ _
 simp(disch:=omega)only[go_sem]
 have hA:=q9 a
 have hB:=q9 b
 refine qj (fun x:Nat×List Int×Int=>[(2,.pt 3 0),(3,.pt 4 0),(4,.pt 2 0),(5,.rf 1 0 x.2.1.length),(6,.v (.int .i64 x.2.2)),(7,.v (.int .i64 x.1))])
  (fun x=>[(1,.own 1 (qc x.2.1)),(2,.own 0 [.v (.slice none 0 0)]),(3,.own 0 [.sl (lim (a)).length (qc (lim (a)))]),(4,.own 0 [.sl (lim (b)).length (qc (lim (b)))])])
  (fun x=>x.1≤max (lim a).length (lim b).length+1∧x.2.1.length=x.1∧gd x.2.1∧(0≤x.2.2∧x.2.2≤1)∧vl x.2.1+65536^x.1*x.2.2=vl ((lim a).take x.1)+vl ((lim b).take x.1)∧(max (lim a).length (lim b).length<x.1→x.2.2=0))
  (fun x=>2*(max (lim a).length (lim b).length-x.1)+x.2.2.toNat) (0,[],0) ⟨by simp,rfl,Z9,by simp,by simp[vl],fun h=>rfl⟩
  ((Le.ghost 5 1 1 (by simp(disch:=omega)only[go_sem]) (by simp(disch:=omega)only[go_sem])).trans (Le.lst [(2,60000000),(3,40000000),(4,50000000)] _ _ rfl (by simp(disch:=omega)only[go_sem]) (by simp(disch:=omega)only[go_sem]))) ?_
 rintro⟨i,out,cy⟩ ⟨hi,hol,hog,hcy,hov,hcz⟩
 dsimp only at hi hol hog hcy hov hcz ⊢
 have hx:=qJ hA i
 have hy:=qJ hB i
 have hxz:¬(i:Int)<(lim a).length→(lim a).getD i 0=0:=fun h=>by rw[List.getD_eq_getElem?_getD,List.getElem?_eq_none (by omega)];rfl
 have hyz:¬(i:Int)<(lim b).length→(lim b).getD i 0=0:=fun h=>by rw[List.getD_eq_getElem?_getD,List.getElem?_eq_none (by omega)];rfl
 have hstep:∀q:Int,q=cy+(lim a).getD i 0+(lim b).getD i 0→vl (out++[q % 65536])+65536^(i+1)*(q/65536)=vl ((lim a).take (i+1))+vl ((lim b).take (i+1)):=by
  intro q hq
  rw[jx,qS,qS,hol,Int.pow_succ]
  have e3:q % 65536+65536*(q/65536)=q:=Int.emod_add_mul_ediv q 65536
  generalize (65536:Int)^i=Pi at*
  grind
 have key:∀q:Int,q=cy+(lim a).getD i 0+(lim b).getD i 0→(i:Int)<(lim a).length∨(i:Int)<(lim b).length∨0<cy→
   ((i+1≤max (lim a).length (lim b).length+1∧(out++[q % 65536]).length=i+1∧gd (out++[q % 65536])∧(0≤q/65536∧q/65536≤1)∧vl (out++[q % 65536])+65536^(i+1)*(q/65536)=vl ((lim a).take (i+1))+vl ((lim b).take (i+1))∧(max (lim a).length (lim b).length<i+1→q/65536=0))∧
   2*(max (lim a).length (lim b).length-(i+1))+(q/65536).toNat<2*(max (lim a).length (lim b).length-i)+cy.toNat):=by
  intro q hq hc
  have hle:i≤max (lim a).length (lim b).length:=by
   rcases Nat.lt_or_ge (max (lim a).length (lim b).length) i with h|h
   ·have:=hcz h;omega
   ·exact h
  have hbig:max (lim a).length (lim b).length<i+1→q/65536=0:=fun h=>by
   have:=hxz (by omega)
   have:=hyz (by omega)
   omega
  refine⟨⟨by omega,by simp[hol],qF.2 ⟨hog,zU.2 (by omega)⟩,by omega,hstep q hq,hbig⟩,?_⟩
  by_cases hm:max (lim a).length (lim b).length<i+1
  ·have:=hbig hm;omega
  ·omega
 by_cases h1:(i:Int)<(lim a).length<;>by_cases h2:(i:Int)<(lim b).length
 ·simp(disch:=omega)only[go_sem,h1,h2]
  obtain⟨k1,k2⟩:=key _ rfl (.inl h1)
  refine⟨by omega,by omega,by omega,by omega,by omega,qb (i+1,out++[(cy+(lim a).getD i 0+(lim b).getD i 0) % 65536],(cy+(lim a).getD i 0+(lim b).getD i 0)/65536) [(1,580000000)] k1 k2 rfl (by simp(disch:=omega)only[go_sem,List.length_append];try omega) (by simp(disch:=omega)only[go_sem])⟩
 ·simp(disch:=omega)only[go_sem,h1,h2]
  have e0:cy+(lim a).getD i 0=cy+(lim a).getD i 0+(lim b).getD i 0:=by rw[hyz h2];omega
  obtain⟨k1,k2⟩:=key (cy+(lim a).getD i 0) e0 (.inl h1)
  refine⟨by omega,by omega,by omega,qb (i+1,out++[(cy+(lim a).getD i 0) % 65536],(cy+(lim a).getD i 0)/65536) [(1,580000000)] k1 k2 rfl (by simp(disch:=omega)only[go_sem,List.length_append];try omega) (by simp(disch:=omega)only[go_sem])⟩
 ·simp(disch:=omega)only[go_sem,h1,h2]
  have e0:cy+(lim b).getD i 0=cy+(lim a).getD i 0+(lim b).getD i 0:=by rw[hxz h1];omega
  obtain⟨k1,k2⟩:=key (cy+(lim b).getD i 0) e0 (.inr (.inl h2))
  refine⟨by omega,by omega,by omega,qb (i+1,out++[(cy+(lim b).getD i 0) % 65536],(cy+(lim b).getD i 0)/65536) [(1,580000000)] k1 k2 rfl (by simp(disch:=omega)only[go_sem,List.length_append];try omega) (by simp(disch:=omega)only[go_sem])⟩
 ·by_cases h3:0<cy
  ·simp(disch:=omega)only[go_sem,h1,h2,h3]
   have e0:cy=cy+(lim a).getD i 0+(lim b).getD i 0:=by rw[hxz h1,hyz h2];omega
   obtain⟨k1,k2⟩:=key cy e0 (.inr (.inr h3))
   refine⟨by omega,qb (i+1,out++[cy % 65536],cy/65536) [(1,580000000)] k1 k2 rfl (by simp(disch:=omega)only[go_sem,List.length_append];try omega) (by simp(disch:=omega)only[go_sem])⟩
  ·have hcy0:cy=0:=by omega
   have hov2:vl out=((a+b:Nat):Int):=by
    rw[List.take_of_length_le (by omega),List.take_of_length_le (by omega),q8,q8,hcy0]at hov
    simp at hov;omega
   simp(disch:=omega)only[go_sem,h1,h2,h3]
   refine qz (jw true out (a+b) (by omega) hog hov2) (by simp(disch:=omega)only[go_sem]) ?_
   rintro r hs (⟨h0,rfl,rfl⟩|⟨zs,rfl,rfl⟩)
   ·refine⟨⟨by simp,by simp(disch:=omega)only[go_sem]⟩,?_⟩
    simp(disch:=omega)only[go_sem]
    refine qg [] [] [] [.ag [.v (.slice none 0 0)]] rfl (by simp(disch:=omega)only[go_sem]) (by simp(disch:=omega)only[go_sem]) (by simp) (by intro _;simp[zg,AV.pu,AV.pu.puL,Ob.pu,qX]) (.inl ⟨h0,rfl,rfl⟩)
   ·refine⟨⟨by simp,by simp(disch:=omega)only[go_sem]⟩,?_⟩
    simp(disch:=omega)only[go_sem]
    refine qg [(0,620000000)] [.own 1 (qc (lim (a+b)++zs))] [] [.ag [.rf 0 0 (lim (a+b)).length]] rfl (by simp(disch:=omega)only[go_sem]) (by simp(disch:=omega)only[go_sem]) (by simp) (by intro _;simp[zg,AV.pu,AV.pu.puL,Ob.pu,qX]) (.inr ⟨zs,rfl,rfl⟩)
end Go.Ab
namespace Go.Ab
open Go Go.Proofs
set_option maxRecDepth 100000 in
theorem aj5(cl:Bool)(A:List Int)(hA:gd A)(b:Nat)(lA:A.length≤1000000)(lB:(lim b).length≤1000000)(m:Nat)(hm:vl A*(b:Int)=(m:Int)):
  Con Tryz.prog 273 cl [.ag [.sl A.length (qc A)],.ag [.sl (lim (b)).length (qc (lim (b)))]] [] (aFp m):=by
 refine Con.of_aw Tryz.func273 rfl Tryz.ntmps273 (by simp) (by simp) (by simp) (W.sound ?_)
 show @W Tryz.prog 80 ⟨_⟩ ⟨fun x σ=>@qR _ _ _ ⟨_⟩ _ ⟨_⟩ x σ⟩ _ _
 have hvb:=q8 b
 have hB:=q9 b
 generalize lim b=B at*
 simp(disch:=omega)only[go_sem]
 refine⟨by omega,?_⟩
 refine qj (fun x:Nat×List Int=>[(2,.pt 0 0),(3,.pt 1 0),(4,.pt 2 0),(5,.rf 3 0 (A.length+B.length)),(6,.v (.int .i64 x.1))])
  (fun x=>[(0,.own 0 [.sl A.length (qc A)]),(1,.own 0 [.sl B.length (qc B)]),(2,.own 0 [.v (.slice none 0 0)]),(3,.own 1 (qc x.2))])
  (fun x=>x.1≤A.length∧x.2.length=A.length+B.length∧gd x.2∧vl x.2=vl (A.take x.1)*vl B∧∀j,x.1+B.length≤j→x.2.getD j 0=0)
  (fun x=>A.length-x.1) (0,List.replicate (A.length+B.length) 0) ⟨by simp,by simp,zj _,by simp[zP,vl],fun j _=>by
   rw[List.getD_eq_getElem?_getD,List.getElem?_replicate];split<;>rfl⟩
  (Le.lst [(0,40000000),(1,50000000),(2,60000000),(3,190000000)] _ _ rfl (by simp(disch:=omega)only[go_sem];try omega) (by simp(disch:=omega)only[go_sem,show((A.length:Int)+(B.length:Int)).toNat=A.length+B.length by omega])) ?_
 rintro⟨i,out⟩ ⟨hi,hol,hog,hov,hoz⟩
 dsimp only at hi hol hog hov hoz ⊢
 simp(disch:=omega)only[go_sem]
 refine qe (fun h1=>?_) (fun h1=>?_)
 ·have hx:=qJ hA i
  simp(disch:=omega)only[go_sem,h1]
  refine qj (fun x:Nat×List Int×Int=>[(2,.pt 0 0),(3,.pt 1 0),(4,.pt 2 0),(5,.rf 3 0 (A.length+B.length)),(6,.v (.int .i64 i)),(7,.v (.int .i64 x.2.2)),(8,.v (.int .i64 x.1))])
   (fun x=>[(0,.own 0 [.sl A.length (qc A)]),(1,.own 0 [.sl B.length (qc B)]),(2,.own 0 [.v (.slice none 0 0)]),(3,.own 1 (qc x.2.1))])
   (fun x=>x.1≤B.length∧x.2.1.length=A.length+B.length∧gd x.2.1∧(0≤x.2.2∧x.2.2<65536)∧vl x.2.1+65536^(i+x.1)*x.2.2=vl out+65536^i*(A.getD i 0*vl (B.take x.1))∧∀j,i+B.length≤j→x.2.1.getD j 0=0)
   (fun x=>B.length-x.1) (0,out,0) ⟨by simp,hol,hog,by simp,by simp[vl],hoz⟩
   (Le.lst [] _ _ rfl (by simp(disch:=omega)only[go_sem];try omega) (by simp(disch:=omega)only[go_sem])) ?_
  rintro⟨j,o2,cy⟩ ⟨hj,hol2,hog2,hcy,hov2,hoz2⟩
  dsimp only at hj hol2 hog2 hcy hov2 hoz2 ⊢
  simp(disch:=omega)only[go_sem]
  refine qe (fun h2=>?_) (fun h2=>?_)
  ·have hy:=qJ hB j
   have ho:=qJ hog2 (i+j)
   have hxy:=apz hx hy
   have e1:((i:Int)+(j:Int)).toNat=i+j:=by omega
   simp(disch:=omega)only[go_sem,h2]
   refine qp rfl [⟨0,[],[]⟩,⟨1,[],[]⟩,⟨2,[],[]⟩,⟨3,[],[]⟩,⟨4,[],[]⟩,⟨5,[],[]⟩,⟨6,[5],[]⟩,⟨7,[5],[]⟩,⟨8,[5,7],[]⟩,⟨9,[5],[]⟩,⟨10,[5],[]⟩,⟨11,[5,7,10],[]⟩,⟨12,[5,7,10],[]⟩,⟨13,[5,7,10,12],[]⟩,⟨14,[5,7,10],[]⟩,⟨15,[5,7,10],[]⟩,⟨16,[5],[]⟩,⟨17,[],[]⟩,⟨18,[5,7,10,12,15],[]⟩,⟨19,[],[]⟩,⟨20,[],[]⟩] (by kernel_rfl) ?_
   simp(disch:=omega)only[go_sem,e1]
   generalize hq:o2.getD (i+j) 0+A.getD i 0*B.getD j 0+cy=q
   refine⟨by omega,by omega,by omega,by omega,by omega,by omega,by omega,by omega,qb (j+1,o2.set (i+j) (q % 65536),q/65536) [] ⟨by show j+1≤_;omega,by simp[hol2],yZ hog2 (by omega),by show 0≤q/65536∧q/65536<65536;omega,?_,fun k hk=>?_⟩
    (by show B.length-(j+1)<B.length-j;omega) rfl (by simp(disch:=omega)only[go_sem];try omega) (by simp(disch:=omega)only[go_sem])⟩
   ·show vl (o2.set (i+j) (q % 65536))+65536^(i+(j+1))*(q/65536)=vl out+65536^i*(A.getD i 0*vl (B.take (j+1)))
    rw[Q7 (by omega),jd (by omega),←Nat.add_assoc,Int.pow_succ]
    have e2:(65536:Int)^(i+j)=65536^i*65536^j:=Int.pow_add _ _ _
    have e3:q % 65536+65536*(q/65536)=q:=Int.emod_add_mul_ediv q 65536
    rw[e2]at hov2 ⊢
    generalize (65536:Int)^i=Pi at*
    generalize (65536:Int)^j=Pj at*
    grind
   ·show(o2.set (i+j) (q % 65536)).getD k 0=0
    rw[List.getD_eq_getElem?_getD,List.getElem?_set_ne (by omega),←List.getD_eq_getElem?_getD]
    exact hoz2 k hk
  ·simp(disch:=omega)only[go_sem,h2]
   have e1:((i:Int)+(B.length:Int)).toNat=i+B.length:=by omega
   have hjB:j=B.length:=by omega
   subst hjB
   rw[List.take_length]at hov2
   have hz:=hoz2 (i+B.length) (Nat.le_refl _)
   refine qp rfl [⟨0,[],[]⟩,⟨1,[],[]⟩,⟨2,[],[]⟩,⟨3,[],[]⟩,⟨4,[],[]⟩,⟨5,[],[]⟩,⟨6,[3],[]⟩,⟨7,[3],[]⟩,⟨8,[3],[]⟩,⟨9,[3],[]⟩,⟨10,[3],[]⟩,⟨11,[3],[]⟩,⟨12,[3],[]⟩,⟨13,[3],[]⟩,⟨14,[3,9,13],[]⟩,⟨15,[3],[]⟩,⟨16,[],[]⟩,⟨17,[],[]⟩] (by kernel_rfl) ?_
   simp(disch:=omega)only[go_sem,e1,hz]
   have e0:(0:Int)+cy=cy:=by omega
   refine⟨by omega,by omega,by omega,by omega,qb (i+1,o2.set (i+B.length) cy) [] ⟨by show i+1≤_;omega,by simp[hol2],yZ hog2 hcy,?_,fun k hk=>?_⟩ (by show A.length-(i+1)<A.length-i;omega) rfl (by simp(disch:=omega)only[go_sem];try omega) (by simp(disch:=omega)only[go_sem,e0])⟩
   ·show vl (o2.set (i+B.length) cy)=vl (A.take (i+1))*vl B
    rw[Q7 (by omega),hz,jd (by omega)]
    generalize (65536:Int)^i=Pi at*
    grind
   ·show(o2.set (i+B.length) cy).getD k 0=0
    rw[List.getD_eq_getElem?_getD,List.getElem?_set_ne (by show i+B.length≠k;omega),←List.getD_eq_getElem?_getD]
    exact hoz2 k (by omega)
 ·simp(disch:=omega)only[go_sem,h1]
  have hiA:i=A.length:=by omega
  subst hiA
  rw[List.take_length,hvb,hm]at hov
  rw[←hol]
  refine qz (jw true (out) (m) (by omega) (hog) (hov)) (by simp(disch:=omega)only[go_sem]) ?_
  rintro r hs (⟨h0,rfl,rfl⟩|⟨zs,rfl,rfl⟩)
  ·refine⟨⟨by simp,by simp(disch:=omega)only[go_sem]⟩,?_⟩
   simp(disch:=omega)only[go_sem]
   refine qg [] [] [] [.ag [.v (.slice none 0 0)]] rfl (by simp(disch:=omega)only[go_sem]) (by simp(disch:=omega)only[go_sem]) (by simp) (by intro _;simp[zg,AV.pu,AV.pu.puL,Ob.pu,qX]) (.inl ⟨h0,rfl,rfl⟩)
  ·refine⟨⟨by simp,by simp(disch:=omega)only[go_sem]⟩,?_⟩
   simp(disch:=omega)only[go_sem]
   refine qg [(0,810000000)] [.own 1 (qc (lim (m)++zs))] [] [.ag [.rf 0 0 (lim (m)).length]] rfl (by simp(disch:=omega)only[go_sem]) (by simp(disch:=omega)only[go_sem]) (by simp) (by intro _;simp[zg,AV.pu,AV.pu.puL,Ob.pu,qX]) (.inr ⟨zs,rfl,rfl⟩)
end Go.Ab
namespace Go.Ab
open Go Go.Proofs
def aPl(m:Nat)(r0:Int):AV→List Ob→List Ob→Prop:=fun r hs bs=>
 (m=0∧r=.tu [.ag [.v (.slice none 0 0)],.v (.int .i64 r0)]∧hs=[])∨∃zs,r=.tu [.ag [.rf 0 0 (lim m).length],.v (.int .i64 r0)]∧hs=[.own 1 (qc (lim m++zs))]
theorem Con.natF2{P:Program}{f:FuncId}{args:List AV}{m:Nat}{r0:Int}(h:Con P f false args [] (aPl m r0)):Con P f false args [] (isA (.tu [.ag [.sl (lim (m)).length (qc (lim (m)))],.v (.int .i64 r0)])):=
 Con.frzA <| h.mono fun r hs bs h=>by
  rcases h with⟨rfl,rfl,rfl⟩|⟨zs,rfl,rfl⟩
  ·show qE _ 6 _=_
   rw[qo];rfl
  ·show qE _ 6 _=_
   rw[Yw,List.map_cons,List.map_cons,List.map_nil,adK,List.map_cons,List.map_nil,j8 (k:=2) (l:=lim m) (zs:=zs) zb rfl]
   rfl
theorem aaD(cl:Bool)(A:List Int)(d:Nat)(hA:gd A)(lA:A.length≤1000000)(hd:0<d)(hd2:d<65536)(m:Nat)(hm:vl A/(d:Int)=(m:Int)):
  Con Tryz.prog 279 cl [.ag [.sl A.length (qc A)],.v (.int .i64 d)] [] (aPl m (vl A % d)):=by
 refine Con.of_aw Tryz.func279 rfl Tryz.ntmps279 (by simp) (by simp) (by simp) (W.sound ?_)
 show @W Tryz.prog 42 ⟨_⟩ ⟨fun x σ=>@qR _ _ _ ⟨_⟩ _ ⟨_⟩ x σ⟩ _ _
 simp(disch:=omega)only[go_sem]
 refine⟨by omega,?_⟩
 refine qj (fun x:Nat×List Int×Int=>[(1,.v (.int .i64 d)),(2,.pt 0 0),(4,.pt 1 0),(6,.rf 2 0 A.length),(7,.v (.int .i64 x.2.2)),(8,.v (.int .i64 ((x.1:Int)-1)))])
  (fun x=>[(0,.own 0 [.sl A.length (qc A)]),(1,.own 0 [.v (.slice none 0 0)]),(2,.own 1 (qc x.2.1))])
  (fun x=>x.1≤A.length∧x.2.1.length=A.length∧gd x.2.1∧x.2.2=vl (A.drop x.1) % d∧vl (x.2.1.drop x.1)=vl (A.drop x.1)/d)
  (fun x=>x.1) (A.length,List.replicate A.length 0,0) ⟨Nat.le_refl _,by simp,zj _,by simp[vl],by simp[vl]⟩
  (Le.lst [(0,40000000),(1,60000000),(2,150000000)] _ _ rfl (by simp(disch:=omega)only[go_sem,List.length_replicate];try omega) (by simp(disch:=omega)only[go_sem])) ?_
 rintro⟨k,out,rest⟩ ⟨hk,hol,hog,hr,hov⟩
 dsimp only at hk hol hog hr hov ⊢
 have hr0:0≤rest∧rest<d:=by rw[hr];exact⟨Int.emod_nonneg _ (by omega),Int.emod_lt_of_pos _ (by omega)⟩
 simp(disch:=omega)only[go_sem]
 refine qe (fun h1=>?_) (fun h1=>?_)
 ·obtain⟨i,rfl⟩:∃i,k=i+1:=⟨k-1,by omega⟩
  have ei:((i+1:Nat):Int)-1=(i:Nat):=by omega
  have hx:=qJ hA i
  have hq6:0≤(rest*65536+A.getD i 0)/d∧(rest*65536+A.getD i 0)/d<65536:=by
   refine⟨Int.ediv_nonneg (by omega) (by omega),Int.ediv_lt_of_lt_mul (by omega) ?_⟩
   have:rest+1≤(d:Int):=by omega
   have:=Int.mul_le_mul_of_nonneg_left this (show(0:Int)≤65536 by omega)
   omega
  simp(disch:=omega)only[go_sem,h1,ei]
  generalize hq:rest*65536+A.getD i 0=q at*
  refine⟨by omega,by omega,by omega,by omega,by omega,by omega,qb (i,out.set i (q/d),q % d) [] ⟨by show i≤_;omega,by simp[hol],yZ hog hq6,?_,?_⟩ (by show i<i+1;omega) rfl (by simp(disch:=omega)only[go_sem];try omega) (by simp(disch:=omega)only[go_sem])⟩
  ·show q % d=vl (A.drop i) % d
   rw[zF (l:=A) (i:=i) (by omega),←hq,hr]
   have h3:=Int.emod_add_mul_ediv (vl (A.drop (i+1))) d
   rw[show A.getD i 0+65536*vl (A.drop (i+1))=vl (A.drop (i+1)) % d*65536+A.getD i 0+d*(65536*(vl (A.drop (i+1))/d)) by grind,Int.add_mul_emod_self_left]
  ·show vl ((out.set i (q/d)).drop i)=vl (A.drop i)/d
   rw[drop_set (by omega),vl,hov,zF (l:=A) (i:=i) (by omega),←hq,hr]
   have h3:=Int.emod_add_mul_ediv (vl (A.drop (i+1))) d
   rw[show A.getD i 0+65536*vl (A.drop (i+1))=vl (A.drop (i+1)) % d*65536+A.getD i 0+d*(65536*(vl (A.drop (i+1))/d)) by grind,Int.add_mul_ediv_left _ _ (by omega)]
 ·simp(disch:=omega)only[go_sem,h1]
  have:k=0:=by omega
  subst this
  rw[List.drop_zero,List.drop_zero,hm]at hov
  rw[List.drop_zero]at hr
  rw[←hol]
  refine qz (jw true out m (by omega) hog hov) (by simp(disch:=omega)only[go_sem]) ?_
  rintro r hs (⟨h0,rfl,rfl⟩|⟨zs,rfl,rfl⟩)
  ·refine⟨⟨by simp,by simp(disch:=omega)only[go_sem]⟩,?_⟩
   simp(disch:=omega)only[go_sem]
   rw[hr]
   refine qg [] [] [] [.ag [.v (.slice none 0 0)],.v (.int .i64 (vl A % d))] rfl (by simp(disch:=omega)only[go_sem]) (by simp(disch:=omega)only[go_sem]) (by simp) (by intro _;simp[zg,AV.pu,AV.pu.puL,Ob.pu,qX]) (.inl ⟨h0,rfl,rfl⟩)
  ·refine⟨⟨by simp,by simp(disch:=omega)only[go_sem]⟩,?_⟩
   simp(disch:=omega)only[go_sem]
   rw[hr]
   refine qg [(0,420000000)] [.own 1 (qc (lim m++zs))] [] [.ag [.rf 0 0 (lim m).length],.v (.int .i64 (vl A % d))] rfl (by simp(disch:=omega)only[go_sem]) (by simp(disch:=omega)only[go_sem]) (by simp) (by intro _;simp[zg,AV.pu,AV.pu.puL,Ob.pu,qX]) (.inr ⟨zs,rfl,rfl⟩)
/-! ### Shifts-/
theorem ao0{k:Nat}(hk:k<16):IntKind.i64.wrap (1*2^(min ((k:Int)).toNat 64))=((2^k:Nat):Int):=by
 have e:min ((k:Int)).toNat 64=k:=by omega
 rw[e,Int.one_mul]
 have h:=yu k hk
 rw[akF (by omega) (by omega),Int.natCast_pow];rfl
theorem aq5(cl:Bool)(a k:Nat)(la:(lim a).length≤400000)(hk:k≤5000000):Con Tryz.prog 260 cl [.ag [.sl (lim (a)).length (qc (lim (a)))],.v (.int .i64 k)] [] (aFp (a*2^k)):=by
 refine Con.of_aw Tryz.func260 rfl Tryz.ntmps260 (by simp) (by simp) (by simp) (W.sound ?_)
 show @W Tryz.prog 22 ⟨_⟩ ⟨fun x σ=>@qR _ _ _ ⟨_⟩ _ ⟨_⟩ x σ⟩ _ _
 have hz:((lim a).length:Int)=0→a=0:=fun h=>qI.1 (List.length_eq_zero_iff.1 (by omega))
 have hvA:=q8 a
 have gA:=q9 a
 generalize hLA:lim a=A at*
 simp(disch:=omega)only[go_sem]
 refine qe (fun h1=>?_) (fun h1=>?_)
 ·simp(disch:=omega)only[go_sem,h1]
  have h0:=hz h1
  subst h0
  refine qg [] [] [] [.ag [.v (.slice none 0 0)]] rfl (by simp(disch:=omega)only[go_sem]) (by simp(disch:=omega)only[go_sem]) (by simp) (by intro _;simp[zg,AV.pu,AV.pu.puL,Ob.pu,qX]) (.inl ⟨by simp,rfl,rfl⟩)
 ·simp(disch:=omega)only[go_sem,h1]
  refine qp rfl [⟨0,[],[]⟩,⟨1,[],[]⟩,⟨3,[],[]⟩,⟨4,[],[]⟩,⟨7,[4],[]⟩,⟨8,[4],[]⟩,⟨9,[4],[]⟩,⟨2,[4],[]⟩,⟨5,[],[]⟩,⟨6,[],[]⟩,⟨10,[],[]⟩,⟨11,[],[]⟩,⟨12,[],[]⟩] (by kernel_rfl) ?_
  have e16:((k:Int)/16).toNat=k/16:=by omega
  have e17:(k:Int) % 16=((k % 16:Nat):Int):=by omega
  have es:IntKind.i64.wrap (1*2^(min ((k:Int) % 16).toNat 64))=((2^(k % 16):Nat):Int):=by rw[e17];exact ao0 (by omega)
  have hp15:2^(k % 16)≤2^15:=Nat.pow_le_pow_right (by omega) (by omega)
  have ecut:(List.replicate (k/16) (0:Int)).take (k/16)=List.replicate (k/16) 0:=List.take_of_length_le (by simp)
  simp(disch:=omega)only[go_sem,e16,ecut,es]
  refine⟨by omega,by omega,by simp;omega,?_⟩
  refine qa ((Y8 false (2^(k % 16)) (by omega)).natF) ?_
  simp(disch:=omega)only[go_sem]
  have hvA2:vl (List.replicate (k/16) 0++A)*((2^(k % 16):Nat):Int)=((a*2^k:Nat):Int):=by
   rw[Qj,zP,hvA,List.length_replicate]
   have h2:a*2^k=65536^(k/16)*a*2^(k % 16):=by
    have:2^k=65536^(k/16)*2^(k % 16):=by rw[ZW,←Nat.pow_add,Nat.div_add_mod]
    rw[this];grind
   rw[h2,Int.natCast_mul,Int.natCast_mul,Int.natCast_pow]
   simp
  have gA2:gd (List.replicate (k/16) 0++A):=qF.2 ⟨zj _,gA⟩
  have lA2:(List.replicate (k/16) (0:Int)++A).length=k/16+A.length:=by simp
  have et:(List.replicate (k/16) (0:Int)++A).take (k/16+A.length)=List.replicate (k/16) 0++A:=List.take_of_length_le (by simp)
  have l2s:(lim (2^(k % 16))).length≤1000000:=by
   have:=qB (m:=2^(k % 16)) (B:=16) (zy.2 (by omega));omega
  refine qz (aj5 true (List.replicate (k/16) 0++A) gA2 (2^(k % 16)) (by omega) l2s (a*2^k) hvA2) (by simp(disch:=omega)only[go_sem,lA2,et]) ?_
  rintro r hs (⟨h0,rfl,rfl⟩|⟨zs,rfl,rfl⟩)
  ·refine⟨⟨by simp,by simp(disch:=omega)only[go_sem]⟩,?_⟩
   simp(disch:=omega)only[go_sem]
   refine qg [] [] [] [.ag [.v (.slice none 0 0)]] rfl (by simp(disch:=omega)only[go_sem]) (by simp(disch:=omega)only[go_sem]) (by simp) (by intro _;simp[zg,AV.pu,AV.pu.puL,Ob.pu,qX]) (.inl ⟨h0,rfl,rfl⟩)
  ·refine⟨⟨by simp,by simp(disch:=omega)only[go_sem]⟩,?_⟩
   simp(disch:=omega)only[go_sem]
   refine qg [(0,230000000)] [.own 1 (qc (lim (a*2^k)++zs))] [] [.ag [.rf 0 0 (lim (a*2^k)).length]] rfl (by simp(disch:=omega)only[go_sem]) (by simp(disch:=omega)only[go_sem]) (by simp) (by intro _;simp[zg,AV.pu,AV.pu.puL,Ob.pu,qX]) (.inr ⟨zs,rfl,rfl⟩)
end Go.Ab
namespace Go.Ab
open Go Go.Proofs
theorem aq4(a k:Nat)(la:(lim a).length≤1000000)(hk:k≤100000000):Con Tryz.prog 257 false [.ag [.sl (lim (a)).length (qc (lim (a)))],.v (.int .i64 k)] [] (isA (.ag [.sl (lim (a/2^k)).length (qc (lim (a/2^k)))])):=by
 refine Con.frzA ?_
 refine Con.of_aw Tryz.func257 rfl Tryz.ntmps257 (by simp) (by simp) (by simp) (W.sound ?_)
 show @W Tryz.prog 28 ⟨_⟩ ⟨fun x σ=>@qR _ _ _ ⟨_⟩ _ ⟨_⟩ x σ⟩ _ _
 simp(disch:=omega)only[go_sem]
 refine qe (fun h1=>?_) (fun h1=>?_)
 ·simp(disch:=omega)only[go_sem,h1]
  have h0:a/2^k=0:=by
   refine Nat.div_eq_of_lt (Nat.lt_of_lt_of_le (Z2 a) ?_)
   rw[ZW];exact Nat.pow_le_pow_right (by omega) (by omega)
  rw[h0,qo]
  exact ql
 ·simp(disch:=omega)only[go_sem,h1]
  refine qp rfl [⟨0,[],[]⟩,⟨1,[],[]⟩,⟨2,[1],[]⟩,⟨3,[1],[]⟩,⟨4,[],[]⟩,⟨5,[],[]⟩,⟨6,[1,4],[]⟩,⟨7,[1,4],[]⟩,⟨8,[1,4],[]⟩,⟨13,[1,4],[]⟩,⟨9,[],[70000000]⟩,⟨10,[],[70000000]⟩,⟨11,[],[70000000]⟩,⟨12,[],[70000000]⟩,⟨14,[],[]⟩,⟨15,[],[]⟩] (by kernel_rfl) ?_
  have e16:((k:Int)/16).toNat=k/16:=by omega
  have e17:(k:Int) % 16=((k % 16:Nat):Int):=by omega
  have e18:(((lim a).length:Int)-(k:Int)/16).toNat=((lim a).drop (k/16)).length:=by simp;omega
  have es:IntKind.i64.wrap (1*2^(min ((k:Int) % 16).toNat 64))=((2^(k % 16):Nat):Int):=by rw[e17];exact ao0 (by omega)
  have hp15:2^(k % 16)≤2^15:=Nat.pow_le_pow_right (by omega) (by omega)
  have hp0:0<2^(k % 16):=Nat.pow_pos (by omega)
  have hvD:=aeO (q9 a) (i:=k/16) (by omega)
  have gD:=yB (q9 a) (k/16)
  have hlD:((lim a).drop (k/16)).length≤1000000:=by simp;omega
  have hm:vl ((lim a).drop (k/16))/((2^(k % 16):Nat):Int)=((a/2^k:Nat):Int):=by
   rw[←hvD,q8]
   have:a/2^k=a/65536^(k/16)/2^(k % 16):=by rw[Nat.div_div_eq_div_mul,ZW,←Nat.pow_add,Nat.div_add_mod]
   rw[this,Int.natCast_ediv,Int.natCast_ediv,Int.natCast_pow 65536];rfl
  have et:((lim a).drop (k/16)).take ((lim a).drop (k/16)).length=(lim a).drop (k/16):=List.take_length
  simp(disch:=omega)only[go_sem,e16,e18,et,es]
  generalize (lim a).drop (k/16)=D at*
  refine⟨by omega,by omega,?_⟩
  refine qa ((aaD false D (2^(k % 16)) gD hlD hp0 (by omega) (a/2^k) hm).natF2) ?_
  simp(disch:=omega)only[go_sem]
  exact ql
theorem aaE(m:Nat)(i:Int)(hl:(lim m).length≤2^40)(hi:0≤i)(hi2:i<2^62):Con Tryz.prog 197 true [.ag [.sl (lim (m)).length (qc (lim (m)))],.v (.int .i64 i)] [] (isA (.v (.int .i64 ((m/2^i.toNat % 2:Nat):Int)))):=by
 refine Con.of_w (rs:=[.tmp 4]) Tryz.func197 rfl Tryz.ntmps197 rfl ?_
 obtain⟨k,rfl⟩:=Int.eq_ofNat_of_zero_le hi
 rw[Int.toNat_natCast]
 have h0:¬((k:Int)<0):=by omega
 have e16:((k:Int)/16).toNat=k/16:=by omega
 have em:min ((k:Int) % 16).toNat 64=k % 16:=by omega
 have hb:=arF m k
 simp(disch:=omega)only[go_sem,h0]
 refine qe (fun h1=>?_) (fun h1=>?_)
 ·simp(disch:=omega)only[go_sem,h1]
  have:m/2^k % 2=0:=by
   rw[←hb]
   have h2:=zY m (k/16)
   rw[List.getD_eq_getElem?_getD,List.getElem?_eq_none (by omega)]at h2
   have h3:m/65536^(k/16) % 65536=0:=by simp only[Option.getD_none]at h2;omega
   rw[h3];simp
  rw[this]
  exact qu
 ·have hx:=qJ (q9 m) (k/16)
  have hp:(0:Int)<2^(k % 16):=Int.pow_pos (by omega)
  have efd:∀x:Int,x.fdiv (2^(k % 16))=x/2^(k % 16):=fun x=>Int.fdiv_eq_ediv_of_nonneg _ (Int.le_of_lt hp)
  have hq:0≤(lim m).getD (k/16) 0/2^(k % 16)∧(lim m).getD (k/16) 0/2^(k % 16)<65536:=by
   refine⟨Int.ediv_nonneg hx.1 (Int.le_of_lt hp),Int.lt_of_le_of_lt (Int.ediv_le_self _ hx.1) hx.2⟩
  have hr:(lim m).getD (k/16) 0/2^(k % 16) % 2=((m/2^k % 2:Nat):Int):=by
   rw[←hb,zY]
   generalize m/65536^(k/16) % 65536=x
   rw[Int.natCast_emod,Int.natCast_ediv,Int.natCast_pow];rfl
  simp(disch:=omega)only[go_sem,h1,e16,em,efd,hr]
  refine⟨by omega,by omega,by omega,?_⟩
  exact qu
theorem asc{m i:Nat}(hz:∀j,j<i→m/2^j % 2=0)(h1:m/2^i % 2=1):tz m=i:=by
 have key:∀k,k≤i→2^k*(m/2^k)=m:=by
  intro k
  induction k with
  |zero=>intro _;simp
  |succ k ih=>
   intro hk
   have h2:=ih (by omega)
   have h3:=hz k (by omega)
   have h4:m/2^(k+1)=m/2^k/2:=by rw[Nat.pow_succ,Nat.div_div_eq_div_mul]
   rw[h4,Nat.pow_succ,Nat.mul_assoc,show 2*(m/2^k/2)=m/2^k by omega];exact h2
 refine ZD (a:=m/2^i/2) ?_
 have:=key i (Nat.le_refl _)
 rw[show 2*(m/2^i/2)+1=m/2^i by omega];exact this.symm
theorem aek(m:Nat)(hl:(lim m).length≤2^40):Con Tryz.prog 256 true [.ag [.sl (lim (m)).length (qc (lim (m)))]] [] (isA (.v (.int .i64 (tz m)))):=by
 refine Con.of_w (rs:=[.tmp 2]) Tryz.func256 rfl Tryz.ntmps256 rfl ?_
 simp(disch:=omega)only[go_sem]
 refine qj (fun i:Nat=>[(1,.pt 0 0),(3,.v (.int .i64 i))]) (fun _=>[(0,.own 0 [.sl (lim (m)).length (qc (lim (m)))])]) (fun i=>i≤16*(lim m).length∧∀j,j<i→m/2^j % 2=0) (fun i=>16*(lim m).length-i) 0 ⟨by omega,fun j hj=>by omega⟩ (Le.lst [(0,30000000)] _ _ rfl (by simp(disch:=omega)only[go_sem];try omega) (by simp(disch:=omega)only[go_sem])) ?_
 rintro i ⟨hi,hz⟩
 simp(disch:=omega)only[go_sem]
 refine qe (fun h1=>?_) (fun h1=>?_)
 ·simp(disch:=omega)only[go_sem,h1]
  refine qh (aaE m i hl (by omega) (by omega)) ?_
  simp(disch:=omega)only[go_sem]
  refine qe (fun h2=>?_) (fun h2=>?_)
  ·simp(disch:=omega)only[go_sem,h2]
   have:=asc hz (by omega)
   rw[this]
   exact qu
  ·simp(disch:=omega)only[go_sem,h2]
   refine qb (i+1) [] ⟨by omega,fun j hj=>?_⟩ (by show 16*(lim m).length-(i+1)<16*(lim m).length-i;omega) rfl (by simp(disch:=omega)only[go_sem];try omega) (by simp(disch:=omega)only[go_sem])
   rcases(by omega:j<i∨j=i)with h|h
   ·exact hz j h
   ·subst h;omega
 ·simp(disch:=omega)only[go_sem,h1]
  have hm:m=0:=by
   have h3:=afy (m:=m)
   rcases Nat.eq_zero_or_pos m with h|h
   ·exact h
   ·have h4:=yI (n:=m) (by omega)
    have h5:=(Qt (n:=m) (by omega)).1
    have:=hz (tz m) (by omega)
    omega
  subst hm
  rw[akI]
  exact qu
end Go.Ab
namespace Go.Ab
open Go Go.Proofs
theorem aPt(m:Nat):decide ((0:Int)<((lim m).length:Int))=decide (m≠0):=by
 rw[decide_eq_decide]
 exact⟨fun h e=>by rw[e,qo]at h;simp at h,fun h=>by have:=Qu h;omega⟩
theorem Jm(m:Nat)(hl:(lim m).length≤2^39):Con Tryz.prog 276 false [.sl (lim (m)).length (qc (lim (m)))] [] (isA (.ag [.sl (lim (m)).length (qc (lim (m)))])):=(jw false (lim m) m hl (q9 m) (q8 m)).natF
theorem Jl(n:Nat)(hn:n<2^63):Con Tryz.prog 259 false [.v (.int .i64 n)] [] (isA (.ag [.sl (lim (n)).length (qc (lim (n)))])):=(Y8 false n hn).natF
theorem Ye(a b:Nat)(la:(lim a).length≤2000000)(lb:(lim b).length≤2000000):Con Tryz.prog 258 false [.ag [.sl (lim (a)).length (qc (lim (a)))],.ag [.sl (lim (b)).length (qc (lim (b)))]] [] (isA (.ag [.sl (lim (a+b)).length (qc (lim (a+b)))])):=(aq6 false a b la lb).natF
theorem Yc(a k:Nat)(la:(lim a).length≤400000)(hk:k≤5000000):Con Tryz.prog 260 false [.ag [.sl (lim (a)).length (qc (lim (a)))],.v (.int .i64 k)] [] (isA (.ag [.sl (lim (a*2^k)).length (qc (lim (a*2^k)))])):=(aq5 false a k la hk).natF
theorem zq(s:Bool)(m:Nat)(hl:(lim m).length≤2^39):Con Tryz.prog 246 false [.v (.bool s),.ag [.sl (lim (m)).length (qc (lim (m)))]] [] (isA (.ag [.v (.bool (s&&decide (m≠0))),.sl (lim (m)).length (qc (lim (m)))])):=by
 refine Con.frzA ?_
 refine Con.of_w (rs:=[.cell 4 38]) Tryz.func246 rfl Tryz.ntmps246 rfl ?_
 simp(disch:=omega)only[go_sem]
 refine qp rfl [⟨0,[],[]⟩,⟨1,[],[]⟩,⟨2,[],[]⟩,⟨3,[],[]⟩,⟨4,[],[]⟩,⟨5,[],[]⟩,⟨6,[],[]⟩,⟨7,[3],[]⟩,⟨8,[3],[]⟩,⟨9,[3],[]⟩,⟨10,[],[]⟩,⟨11,[],[]⟩] (by kernel_rfl) ?_
 simp(disch:=omega)only[go_sem]
 refine yU (fun h1=>?_) (fun h1=>?_)
 ·simp(disch:=omega)only[go_sem,h1,aPt]
  refine qa (Jm m hl) ?_
  simp(disch:=omega)only[go_sem]
  exact ql (hp:=by simp(disch:=omega)only[go_sem,h1,Bool.true_and])
 ·simp(disch:=omega)only[go_sem,h1]
  refine qa (Jm m hl) ?_
  simp(disch:=omega)only[go_sem]
  exact ql (hp:=by simp(disch:=omega)only[go_sem,h1,Bool.false_and])
theorem QD(n:Int)(h: -9223372036854775808≤n∧n<9223372036854775808):Con Tryz.prog 205 false [.v (.int .i64 n)] [] (isA (.ag [.v (.bool (decide (n<0))),.sl (lim (n.natAbs)).length (qc (lim (n.natAbs)))])):=by
 refine Con.frzA ?_
 refine Con.of_aw Tryz.func205 rfl Tryz.ntmps205 (by simp) (by simp) (by simp) (W.sound ?_)
 show @W Tryz.prog 15 ⟨_⟩ ⟨fun x σ=>@qR _ _ _ ⟨_⟩ _ ⟨_⟩ x σ⟩ _ _
 simp(disch:=omega)only[go_sem]
 refine qe (fun h1=>?_) (fun h1=>?_)
 ·simp(disch:=omega)only[go_sem,h1]
  have e1:0-(n+1)=(((0-(n+1)).toNat:Nat):Int):=by omega
  refine qa (Jl (0-(n+1)).toNat (by omega)) ?_ (by simp(disch:=omega)only[go_sem,←e1])
  simp(disch:=omega)only[go_sem]
  refine qa (Jl 1 (by omega)) ?_
  simp(disch:=omega)only[go_sem]
  have l1:=qB (m:=(0-(n+1)).toNat) (B:=64) (zy.2 (by omega))
  have l2:=qB (m:=1) (B:=64) (by decide)
  refine qa (Ye (0-(n+1)).toNat 1 (by omega) (by omega)) ?_
  simp(disch:=omega)only[go_sem]
  have e2:(0-(n+1)).toNat+1=n.natAbs:=by omega
  have l3:=qB (m:=(0-(n+1)).toNat+1) (B:=64) (zy.2 (by omega))
  refine qa (zq true ((0-(n+1)).toNat+1) (by omega)) ?_
  simp(disch:=omega)only[go_sem]
  refine qP (by simp(disch:=omega)only[go_sem]) ?_
  show qE _ 6 _=_
  have e3:decide (n.natAbs≠0)=true:=by simp;omega
  rw[e2]
  simp(disch:=omega)only[go_sem,e3,h1,Bool.true_and]
 ·simp(disch:=omega)only[go_sem,h1]
  have e1:n=((n.natAbs:Nat):Int):=by omega
  refine qa (Jl n.natAbs (by omega)) ?_ (by simp(disch:=omega)only[go_sem,←e1])
  simp(disch:=omega)only[go_sem]
  have l3:=qB (m:=n.natAbs) (B:=64) (zy.2 (by omega))
  refine qa (zq false n.natAbs (by omega)) ?_
  simp(disch:=omega)only[go_sem]
  exact ql (hp:=by simp(disch:=omega)only[go_sem,h1,Bool.false_and])
theorem jY(s:Bool)(m:Nat)(e:Int)(hm:bl m≤8000000)(he: -2^40≤e∧e≤2^40):Con Tryz.prog 204 false [.ag [.v (.bool (s)),.sl (lim (m)).length (qc (lim (m)))],.v (.int .i64 e)] [] (isA (.ag [.v (.bool (oS s m)),.sl (lim (oM m)).length (qc (lim (oM m))),.v (.int .i64 (oE m e))])):=by
 refine Con.frzA ?_
 refine Con.of_aw Tryz.func204 rfl Tryz.ntmps204 (by simp) (by simp) (by simp) (W.sound ?_)
 show @W Tryz.prog 26 ⟨_⟩ ⟨fun x σ=>@qR _ _ _ ⟨_⟩ _ ⟨_⟩ x σ⟩ _ _
 simp(disch:=omega)only[go_sem]
 have hl:=qB hm
 refine qe (fun h1=>?_) (fun h1=>?_)
 ·simp(disch:=omega)only[go_sem,h1]
  have h0:m=0:=qI.1 (List.length_eq_zero_iff.1 (by omega))
  subst h0
  refine qP (by simp(disch:=omega)only[go_sem]) ?_
  show qE _ 6 _=_
  simp only[oS,Z1,oE,qo,if_true]
  simp(disch:=omega)only[go_sem]
 ·have h0:m≠0:=fun e=>h1 (by rw[e,qo];rfl)
  have ht:=yI h0
  simp(disch:=omega)only[go_sem,h1]
  refine qh (aek m (by omega)) ?_
  simp(disch:=omega)only[go_sem]
  refine qp rfl [⟨0,[],[]⟩,⟨1,[],[]⟩,⟨2,[1],[]⟩,⟨3,[1],[]⟩,⟨4,[1,3],[]⟩,⟨7,[1,3],[]⟩,⟨8,[1,3],[]⟩,⟨9,[1,3],[]⟩,⟨5,[1],[]⟩,⟨6,[],[]⟩,⟨10,[],[]⟩,⟨11,[],[]⟩] (by kernel_rfl) ?_
  simp(disch:=omega)only[go_sem]
  refine qa (aq4 m (tz m) (by omega) (by omega)) ?_
  simp(disch:=omega)only[go_sem]
  have l3:=qB (Nat.le_trans (Xl m (2^tz m)) hm)
  refine qa (zq s (m/2^tz m) (by omega)) ?_
  simp(disch:=omega)only[go_sem]
  refine qP (by simp(disch:=omega)only[go_sem]) ?_
  show qE _ 6 _=_
  have h3:decide (m/2^tz m≠0)=true:=by
   have:=(Qt h0).1
   simp only[decide_eq_true_eq];omega
  simp only[oS,oM,oE,if_neg h0]
  simp(disch:=omega)only[go_sem,h3,Bool.and_true]
end Go.Ab
namespace Go.Ab
open Go Go.Proofs
theorem Jn(a b:Nat)(la:(lim a).length≤2^40)(lb:(lim b).length≤2^40):
  Con Tryz.prog 261 true [.ag [.sl (lim (a)).length (qc (lim (a)))],.ag [.sl (lim (b)).length (qc (lim (b)))]] [] (isA (.v (.int .i64 (zr a b)))):=by
 refine Con.of_w (rs:=[.tmp 4]) Tryz.func261 rfl Tryz.ntmps261 rfl ?_
 simp(disch:=omega)only[go_sem]
 refine zG (fun h1=>?_) (fun h1=>?_)
 ·simp(disch:=omega)only[go_sem,h1]
  refine qe (fun h2=>?_) (fun h2=>?_)
  ·simp(disch:=omega)only[go_sem,h2]
   have:=Qv (a:=a) (b:=b) (by omega)
   rw[show zr (a:Int) (b:Int)= -1 by unfold zr;rw[if_pos (by omega)]]
   exact qu
  ·simp(disch:=omega)only[go_sem,h2]
   have:=Qv (a:=b) (b:=a) (by omega)
   rw[show zr (a:Int) (b:Int)=1 by unfold zr;rw[if_neg (by omega),if_pos (by omega)]]
   exact qu
 ·simp(disch:=omega)only[go_sem,h1]
  have hl:(lim a).length=(lim b).length:=by omega
  refine qj (fun k:Nat=>[(2,.pt 40000000 0),(3,.pt 50000000 0),(5,.v (.int .i64 ((k:Int)-1)))])
   (fun _=>[(40000000,.own 0 [.sl (lim (a)).length (qc (lim (a)))]),(50000000,.own 0 [.sl (lim (b)).length (qc (lim (b)))])]) (fun k=>k≤(lim a).length∧(lim a).drop k=(lim b).drop k) (fun k=>k) (lim a).length ⟨Nat.le_refl _,by rw[List.drop_length,hl,List.drop_length]⟩ (Le.lst [] _ _ rfl (by simp(disch:=omega)only[go_sem];try omega) (by simp(disch:=omega)only[go_sem])) ?_
  rintro k ⟨hk,hd⟩
  simp(disch:=omega)only[go_sem]
  refine qe (fun h2=>?_) (fun h2=>?_)
  ·obtain⟨i,rfl⟩:∃i,k=i+1:=⟨k-1,by omega⟩
   have ei:((i+1:Nat):Int)-1=(i:Nat):=by omega
   have hva:=q8 a
   have hvb:=q8 b
   simp(disch:=omega)only[go_sem,h2,ei]
   refine qp rfl [⟨0,[],[]⟩,⟨1,[],[]⟩,⟨2,[1],[]⟩,⟨3,[],[]⟩,⟨4,[],[]⟩,⟨5,[1,4],[]⟩,⟨6,[1,4],[]⟩,⟨7,[1,4,6],[]⟩,⟨8,[1,4],[]⟩,⟨9,[1,4],[]⟩,⟨10,[],[]⟩] (by kernel_rfl) ?_
   simp(disch:=omega)only[go_sem,ei]
   refine⟨by omega,by omega,by omega,by omega,?_⟩
   refine qe (fun h3=>?_) (fun h3=>?_)
   ·simp(disch:=omega)only[go_sem,h3]
    have:=Zt (q9 a) (q9 b) (by omega) hl hd h3
    rw[show zr (a:Int) (b:Int)= -1 by unfold zr;rw[if_pos (by omega)]]
    exact qu
   ·simp(disch:=omega)only[go_sem,h3]
    refine qp rfl [⟨0,[],[]⟩,⟨1,[],[]⟩,⟨2,[1],[]⟩,⟨3,[],[]⟩,⟨4,[],[]⟩,⟨5,[1,4],[]⟩,⟨6,[1,4],[]⟩,⟨7,[1,4,6],[]⟩,⟨8,[1,4],[]⟩,⟨9,[1,4],[]⟩,⟨10,[],[]⟩] (by kernel_rfl) ?_
    simp(disch:=omega)only[go_sem,ei]
    refine⟨by omega,by omega,by omega,by omega,?_⟩
    refine qe (fun h4=>?_) (fun h4=>?_)
    ·simp(disch:=omega)only[go_sem,h4]
     have:=Zt (q9 b) (q9 a) (by omega) hl.symm hd.symm h4
     rw[show zr (a:Int) (b:Int)=1 by unfold zr;rw[if_neg (by omega),if_pos (by omega)]]
     exact qu
    ·simp(disch:=omega)only[go_sem,h4]
     refine qb i [] ⟨by omega,?_⟩ (by show i<i+1;omega) rfl (by simp(disch:=omega)only[go_sem];try omega) (by simp(disch:=omega)only[go_sem])
     have h5:(lim a).getD i 0=(lim b).getD i 0:=by omega
     rw[yD (l:=lim a) (by omega),yD (l:=lim b) (by omega),h5,hd]
  ·simp(disch:=omega)only[go_sem,h2]
   have:k=0:=by omega
   subst this
   rw[List.drop_zero,List.drop_zero]at hd
   have:=yy hd
   subst this
   rw[show zr (a:Int) (a:Int)=0 by simp[zr]]
   exact qu
theorem aq3(cl:Bool)(a b:Nat)(hle:b≤a)(la:(lim a).length≤1000000):Con Tryz.prog 278 cl [.ag [.sl (lim (a)).length (qc (lim (a)))],.ag [.sl (lim (b)).length (qc (lim (b)))]] [] (aFp (a-b)):=by
 have lB:(lim b).length≤(lim a).length:=ye hle
 have hA:=q9 a
 have hB:=q9 b
 refine Con.of_aw Tryz.func278 rfl Tryz.ntmps278 (by simp) (by simp) (by simp) (W.sound ?_)
 show @W Tryz.prog 45 ⟨_⟩ ⟨fun x σ=>@qR _ _ _ ⟨_⟩ _ ⟨_⟩ x σ⟩ _ _
 simp(disch:=omega)only[go_sem]
 refine qj (fun x:Nat×List Int×Int=>[(2,.pt 2 0),(3,.pt 3 0),(4,.pt 4 0),(5,.rf 1 0 x.2.1.length),(6,.v (.int .i64 x.2.2)),(7,.v (.int .i64 x.1))])
  (fun x=>[(1,.own 1 (qc x.2.1)),(2,.own 0 [.sl (lim (a)).length (qc (lim (a)))]),(3,.own 0 [.sl (lim (b)).length (qc (lim (b)))]),(4,.own 0 [.v (.slice none 0 0)])])
  (fun x=>x.1≤(lim a).length∧x.2.1.length=x.1∧gd x.2.1∧(0≤x.2.2∧x.2.2≤1)∧vl x.2.1-65536^x.1*x.2.2=vl ((lim a).take x.1)-vl ((lim b).take x.1))
  (fun x=>(lim a).length-x.1) (0,[],0) ⟨by simp,rfl,Z9,by simp,by simp[vl]⟩
  ((Le.ghost 5 1 1 (by simp(disch:=omega)only[go_sem]) (by simp(disch:=omega)only[go_sem])).trans (Le.lst [(2,40000000),(3,50000000),(4,60000000)] _ _ rfl (by simp(disch:=omega)only[go_sem]) (by simp(disch:=omega)only[go_sem]))) ?_
 rintro⟨i,out,bo⟩ ⟨hi,hol,hog,hbo,hov⟩
 dsimp only at hi hol hog hbo hov ⊢
 simp(disch:=omega)only[go_sem]
 refine qe (fun h1=>?_) (fun h1=>?_)
 ·have hx:=qJ hA i
  have hy:=qJ hB i
  have hstep:∀z b':Int,(lim a).getD i 0-bo-(lim b).getD i 0=z-65536*b'→vl (out++[z])-65536^(i+1)*b'=vl ((lim a).take (i+1))-vl ((lim b).take (i+1)):=by
   intro z b' hz
   rw[jx,qS,qS,hol,Int.pow_succ]
   generalize (65536:Int)^i=Pi at*
   grind
  have hyz:¬i<(lim b).length→(lim b).getD i 0=0:=fun h=>by rw[List.getD_eq_getElem?_getD,List.getElem?_eq_none (by omega)];rfl
  simp(disch:=omega)only[go_sem,h1]
  refine⟨by omega,by omega,qe (fun h2=>?_) (fun h2=>?_)⟩
  ·simp(disch:=omega)only[go_sem,h2]
   refine⟨by omega,by omega,qe (fun h3=>?_) (fun h3=>?_)⟩
   ·simp(disch:=omega)only[go_sem,h3]
    refine⟨by omega,qb (i+1,out++[(lim a).getD i 0-bo-(lim b).getD i 0+65536],1) [(1,440000000)] ⟨by show i+1≤_;omega,by simp[hol],qF.2 ⟨hog,zU.2 (by omega)⟩,by simp,hstep ((lim a).getD i 0-bo-(lim b).getD i 0+65536) 1 (by omega)⟩ (by show(lim a).length-(i+1)<(lim a).length-i;omega) rfl (by simp(disch:=omega)only[go_sem,List.length_append];try omega) (by simp(disch:=omega)only[go_sem])⟩
   ·simp(disch:=omega)only[go_sem,h3]
    refine⟨by omega,qb (i+1,out++[(lim a).getD i 0-bo-(lim b).getD i 0],0) [(1,440000000)] ⟨by show i+1≤_;omega,by simp[hol],qF.2 ⟨hog,zU.2 (by omega)⟩,by simp,hstep ((lim a).getD i 0-bo-(lim b).getD i 0) 0 (by omega)⟩ (by show(lim a).length-(i+1)<(lim a).length-i;omega) rfl (by simp(disch:=omega)only[go_sem,List.length_append];try omega) (by simp(disch:=omega)only[go_sem])⟩
  ·simp(disch:=omega)only[go_sem,h2]
   refine qe (fun h3=>?_) (fun h3=>?_)
   ·simp(disch:=omega)only[go_sem,h3]
    have hy0:=hyz (by omega)
    refine⟨by omega,qb (i+1,out++[(lim a).getD i 0-bo+65536],1) [(1,440000000)] ⟨by show i+1≤_;omega,by simp[hol],qF.2 ⟨hog,zU.2 (by omega)⟩,by simp,hstep ((lim a).getD i 0-bo+65536) 1 (by omega)⟩ (by show(lim a).length-(i+1)<(lim a).length-i;omega) rfl (by simp(disch:=omega)only[go_sem,List.length_append];try omega) (by simp(disch:=omega)only[go_sem])⟩
   ·simp(disch:=omega)only[go_sem,h3]
    have hy0:=hyz (by omega)
    refine⟨by omega,qb (i+1,out++[(lim a).getD i 0-bo],0) [(1,440000000)] ⟨by show i+1≤_;omega,by simp[hol],qF.2 ⟨hog,zU.2 (by omega)⟩,by simp,hstep ((lim a).getD i 0-bo) 0 (by omega)⟩ (by show(lim a).length-(i+1)<(lim a).length-i;omega) rfl (by simp(disch:=omega)only[go_sem,List.length_append];try omega) (by simp(disch:=omega)only[go_sem])⟩
 ·simp(disch:=omega)only[go_sem,h1]
  have hiA:i=(lim a).length:=by omega
  subst hiA
  rw[List.take_length,List.take_of_length_le lB]at hov
  have hva:=q8 a
  have hvb:=q8 b
  have hb0:bo=0:=by
   have h2:=QL hog
   rw[hol]at h2
   rcases(by omega:bo=0∨bo=1)with h|h
   ·exact h
   ·subst h;omega
  subst hb0
  have hov2:vl out=((a-b:Nat):Int):=by omega
  refine qz (jw true out (a-b) (by omega) hog hov2) (by simp(disch:=omega)only[go_sem]) ?_
  rintro r hs (⟨h0,rfl,rfl⟩|⟨zs,rfl,rfl⟩)
  ·refine⟨⟨by simp,by simp(disch:=omega)only[go_sem]⟩,?_⟩
   simp(disch:=omega)only[go_sem]
   refine qg [] [] [] [.ag [.v (.slice none 0 0)]] rfl (by simp(disch:=omega)only[go_sem]) (by simp(disch:=omega)only[go_sem]) (by simp) (by intro _;simp[zg,AV.pu,AV.pu.puL,Ob.pu,qX]) (.inl ⟨h0,rfl,rfl⟩)
  ·refine⟨⟨by simp,by simp(disch:=omega)only[go_sem]⟩,?_⟩
   simp(disch:=omega)only[go_sem]
   refine qg [(0,460000000)] [.own 1 (qc (lim (a-b)++zs))] [] [.ag [.rf 0 0 (lim (a-b)).length]] rfl (by simp(disch:=omega)only[go_sem]) (by simp(disch:=omega)only[go_sem]) (by simp) (by intro _;simp[zg,AV.pu,AV.pu.puL,Ob.pu,qX]) (.inr ⟨zs,rfl,rfl⟩)
end Go.Ab
namespace Go.Ab
open Go Go.Proofs
theorem Yb(a b:Nat)(hle:b≤a)(la:(lim a).length≤1000000):Con Tryz.prog 278 false [.ag [.sl (lim (a)).length (qc (lim (a)))],.ag [.sl (lim (b)).length (qc (lim (b)))]] [] (isA (.ag [.sl (lim (a-b)).length (qc (lim (a-b)))])):=(aq3 false a b hle la).natF
theorem aq2(s1:Bool)(m1:Nat)(s2:Bool)(m2:Nat)(h1:bl m1≤6000000)(h2:bl m2≤6000000):
  Con Tryz.prog 251 false [.ag [.v (.bool (s1)),.sl (lim (m1)).length (qc (lim (m1)))],.ag [.v (.bool (s2)),.sl (lim (m2)).length (qc (lim (m2)))]] [] (isA (.ag [.v (.bool (suS s1 m1 s2 m2)),.sl (lim (suM s1 m1 s2 m2)).length (qc (lim (suM s1 m1 s2 m2)))])):=by
 refine Con.frzA ?_
 have l1:=qB h1
 have l2:=qB h2
 have hge:(0≤zr (m1:Int) (m2:Int))↔m2≤m1:=by rw[aro.2.2];omega
 have hb:=afw (s1:=s1) (s2:=s2) h1 h2
 have l3:=qB hb
 rw[←ao1]
 refine Con.of_w (rs:=[.cell 4 38]) Tryz.func251 rfl Tryz.ntmps251 rfl ?_
 simp(disch:=omega)only[go_sem]
 refine yU (fun c1=>?_) (fun c1=>?_)
 ·have c1':s1=s2:=by simpa using c1
  simp(disch:=omega)only[go_sem,c1]
  subst c1'
  rw[ae0,aeZ]at*
  refine qp rfl [⟨0,[],[]⟩,⟨1,[],[]⟩,⟨2,[1],[]⟩,⟨3,[1],[]⟩,⟨4,[1,3],[]⟩,⟨5,[1,3],[]⟩,⟨6,[1],[]⟩,⟨7,[],[]⟩,⟨8,[],[]⟩] (by kernel_rfl) ?_
  simp(disch:=omega)only[go_sem]
  refine qa (Ye m1 m2 (by omega) (by omega)) ?_
  simp(disch:=omega)only[go_sem]
  refine qa (zq s1 (m1+m2) (by omega)) ?_
  simp(disch:=omega)only[go_sem]
  exact ql
 ·have c1':s1≠s2:=by simpa using c1
  simp(disch:=omega)only[go_sem,c1]
  refine qh (Jn m1 m2 (by omega) (by omega)) ?_
  simp(disch:=omega)only[go_sem]
  refine qe (fun c2=>?_) (fun c2=>?_)
  ·have c2':m2≤m1:=hge.1 (by omega)
   rw[aFj c1' c2',aFd c1' c2']at*
   simp(disch:=omega)only[go_sem,c2]
   refine qp rfl [⟨0,[],[]⟩,⟨1,[],[]⟩,⟨2,[1],[]⟩,⟨3,[1],[]⟩,⟨4,[1,3],[]⟩,⟨5,[1,3],[]⟩,⟨6,[1],[]⟩,⟨7,[],[]⟩,⟨8,[],[]⟩] (by kernel_rfl) ?_
   simp(disch:=omega)only[go_sem]
   refine qa (Yb m1 m2 c2' (by omega)) ?_
   simp(disch:=omega)only[go_sem]
   refine qa (zq s1 (m1-m2) (by omega)) ?_
   simp(disch:=omega)only[go_sem]
   exact ql
  ·have c2':¬m2≤m1:=fun h=>c2 (by have:=hge.2 h;omega)
   rw[aFi c1' c2',aFc c1' c2']at*
   simp(disch:=omega)only[go_sem,c2]
   refine qp rfl [⟨0,[],[]⟩,⟨1,[],[]⟩,⟨2,[1],[]⟩,⟨3,[1],[]⟩,⟨4,[1,3],[]⟩,⟨5,[1,3],[]⟩,⟨6,[1],[]⟩,⟨7,[],[]⟩,⟨8,[],[]⟩] (by kernel_rfl) ?_
   simp(disch:=omega)only[go_sem]
   refine qa (Yb m2 m1 (by omega) (by omega)) ?_
   simp(disch:=omega)only[go_sem]
   refine qa (zq s2 (m2-m1) (by omega)) ?_
   simp(disch:=omega)only[go_sem]
   exact ql
theorem aq0(s:Bool)(m:Nat)(hl:(lim m).length≤2^39):Con Tryz.prog 190 false [.ag [.v (.bool (s)),.sl (lim (m)).length (qc (lim (m)))]] [] (isA (.ag [.v (.bool ((!s)&&decide (m≠0))),.sl (lim (m)).length (qc (lim (m)))])):=by
 refine Con.frzA ?_
 refine Con.of_w (rs:=[.cell 2 38]) Tryz.func190 rfl Tryz.ntmps190 rfl ?_
 simp(disch:=omega)only[go_sem]
 refine qa (zq (!s) m hl) ?_
 simp(disch:=omega)only[go_sem]
 exact ql
theorem aqY(s:Bool)(m:Nat)(e:Int)(hl:(lim m).length≤2^39):Con Tryz.prog 112 false [.ag [.v (.bool (s)),.sl (lim (m)).length (qc (lim (m))),.v (.int .i64 (e))]] [] (isA (.ag [.v (.bool ((!s)&&decide (m≠0))),.sl (lim (m)).length (qc (lim (m))),.v (.int .i64 (e))])):=by
 refine Con.frzA ?_
 refine Con.of_w (rs:=[.cell 2 40]) Tryz.func112 rfl Tryz.ntmps112 rfl ?_
 simp(disch:=omega)only[go_sem]
 refine qp rfl [⟨0,[],[]⟩,⟨1,[],[]⟩,⟨3,[1],[]⟩,⟨4,[1],[]⟩,⟨2,[4],[]⟩,⟨5,[],[]⟩,⟨6,[],[]⟩] (by kernel_rfl) ?_
 simp(disch:=omega)only[go_sem]
 refine qa (aq0 s m hl) ?_
 simp(disch:=omega)only[go_sem]
 exact ql
def alF(m1:Nat)(e1:Int)(m2:Nat)(e2:Int):Int:=if m1=0 then e2 else if m2=0 then e1 else if e1≤e2 then e1 else e2
theorem aT6(m1:Nat)(e1:Int)(m2:Nat)(e2:Int)(h:¬(m1=0∧m2=0)):alF m1 e1 m2 e2=alE m1 e1 m2 e2:=by
 unfold alF alE
 repeat' split
 all_goals omega
theorem Jk(s1:Bool)(m1:Nat)(e1:Int)(s2:Bool)(m2:Nat)(e2:Int)(h1:bl m1≤4000000)(h2:bl m2≤4000000)(he1: -1000000≤e1∧e1≤1000000)(he2: -1000000≤e2∧e2≤1000000)(z1:m1=0→s1=false)(z2:m2=0→s2=false):
  Con Tryz.prog 208 false [.ag [.v (.bool (s1)),.sl (lim (m1)).length (qc (lim (m1))),.v (.int .i64 (e1))],.ag [.v (.bool (s2)),.sl (lim (m2)).length (qc (lim (m2))),.v (.int .i64 (e2))]] [] (isA (.tu [.ag [.v (.bool (s1)),.sl (lim (alA m1 e1 (alE m1 e1 m2 e2))).length (qc (lim (alA m1 e1 (alE m1 e1 m2 e2))))],.ag [.v (.bool (s2)),.sl (lim (alA m2 e2 (alE m1 e1 m2 e2))).length (qc (lim (alA m2 e2 (alE m1 e1 m2 e2))))],.v (.int .i64 (alF m1 e1 m2 e2))])):=by
 refine Con.frzA ?_
 have l1:=qB h1
 have l2:=qB h2
 refine Con.of_aw Tryz.func208 rfl Tryz.ntmps208 (by simp) (by simp) (by simp) (W.sound ?_)
 show @W Tryz.prog 70 ⟨_⟩ ⟨fun x σ=>@qR _ _ _ ⟨_⟩ _ ⟨_⟩ x σ⟩ _ _
 simp(disch:=omega)only[go_sem]
 refine qe (fun c1=>?_) (fun c1=>?_)
 ·have y1:m1=0:=qI.1 (List.length_eq_zero_iff.1 (by omega))
  have eF:alF m1 e1 m2 e2=e2:=by unfold alF;rw[if_pos y1]
  have a1:alA m1 e1 (alE m1 e1 m2 e2)=m1:=by rw[y1];unfold alA;rw[Nat.zero_mul]
  have a2:alA m2 e2 (alE m1 e1 m2 e2)=m2:=by
   by_cases y2:m2=0
   ·rw[y2];unfold alA;rw[Nat.zero_mul]
   ·unfold alA alE;rw[if_neg y2,if_pos y1,Int.sub_self];simp
  simp(disch:=omega)only[go_sem,c1]
  refine qp rfl [⟨0,[],[]⟩,⟨1,[],[]⟩,⟨2,[1],[]⟩,⟨3,[1],[]⟩,⟨4,[1,3],[]⟩,⟨5,[1,3],[]⟩,⟨6,[3,5],[]⟩,⟨7,[5],[]⟩,⟨8,[],[]⟩] (by kernel_rfl) ?_
  simp(disch:=omega)only[go_sem]
  refine qP (by simp(disch:=omega)only[go_sem]) ?_
  show qE _ 6 _=_
  rw[eF,a1,a2]
  simp(disch:=omega)only[go_sem]
 ·have y1:m1≠0:=fun e=>c1 (by rw[e,qo];rfl)
  simp(disch:=omega)only[go_sem,c1]
  refine qe (fun c2=>?_) (fun c2=>?_)
  ·have y2:m2=0:=qI.1 (List.length_eq_zero_iff.1 (by omega))
   have eF:alF m1 e1 m2 e2=e1:=by unfold alF;rw[if_neg y1,if_pos y2]
   have a1:alA m1 e1 (alE m1 e1 m2 e2)=m1:=by unfold alA alE;rw[if_pos y2,Int.sub_self];simp
   have a2:alA m2 e2 (alE m1 e1 m2 e2)=m2:=by rw[y2];unfold alA;rw[Nat.zero_mul]
   simp(disch:=omega)only[go_sem,c2]
   refine qp rfl [⟨0,[],[]⟩,⟨1,[],[]⟩,⟨2,[1],[]⟩,⟨3,[1],[]⟩,⟨4,[1,3],[]⟩,⟨5,[1,3],[]⟩,⟨6,[3,5],[]⟩,⟨7,[5],[]⟩,⟨8,[],[]⟩] (by kernel_rfl) ?_
   simp(disch:=omega)only[go_sem]
   refine qP (by simp(disch:=omega)only[go_sem]) ?_
   show qE _ 6 _=_
   rw[eF,a1,a2]
   simp(disch:=omega)only[go_sem]
  ·have y2:m2≠0:=fun e=>c2 (by rw[e,qo];rfl)
   simp(disch:=omega)only[go_sem,c2]
   refine qe (fun c3=>?_) (fun c3=>?_)
   ·have eF:alF m1 e1 m2 e2=e1:=by unfold alF;rw[if_neg y1,if_neg y2,if_pos c3]
    have eE:alE m1 e1 m2 e2=e1:=by unfold alE;rw[if_neg y2,if_neg y1,if_neg (by omega)]
    have a1:alA m1 e1 (alE m1 e1 m2 e2)=m1:=by rw[eE];unfold alA;rw[Int.sub_self];simp
    have ek:e2-e1=(((e2-e1).toNat:Nat):Int):=by omega
    have hb:bl (m2*2^(e2-e1).toNat)≤6000000:=by have:=Xi m2 (e2-e1).toNat;omega
    have l3:=qB hb
    have hn:m2*2^(e2-e1).toNat≠0:=Nat.mul_ne_zero y2 (Nat.pos_iff_ne_zero.1 (Nat.pow_pos (by omega)))
    have hd:decide (m2*2^(e2-e1).toNat≠0)=true:=decide_eq_true hn
    simp(disch:=omega)only[go_sem,c3]
    refine qp rfl [⟨0,[],[]⟩,⟨1,[],[]⟩,⟨2,[1],[]⟩,⟨3,[1],[]⟩,⟨4,[1],[]⟩,⟨5,[1,4],[]⟩,⟨6,[1,4],[]⟩,⟨7,[1,4],[]⟩,⟨8,[1,4,7],[]⟩,⟨9,[1,4,7],[]⟩,⟨10,[1,4,7,9],[]⟩,⟨11,[1,4,7,9],[]⟩,⟨12,[1,4,7],[]⟩,⟨15,[1,4,7,9,11],[]⟩,⟨16,[1,4,7,9,11],[]⟩,⟨13,[1,4,16],[]⟩,⟨14,[1,16],[]⟩,⟨17,[16],[]⟩,⟨18,[16],[]⟩,⟨19,[],[]⟩] (by kernel_rfl) ?_
    simp(disch:=omega)only[go_sem]
    refine qW (Yc m2 (e2-e1).toNat (by omega) (by omega)) (by simp(disch:=omega)only[go_sem,←ek]) ?_
    rintro r hs ⟨rfl,rfl,_⟩
    refine⟨by simp[qO],?_⟩
    simp(disch:=omega)only[go_sem]
    refine qa (zq s2 (m2*2^(e2-e1).toNat) (by omega)) ?_
    simp(disch:=omega)only[go_sem]
    refine qP (by simp(disch:=omega)only[go_sem]) ?_
    show qE _ 6 _=_
    rw[eF,a1,eE,hd];unfold alA
    simp(disch:=omega)only[go_sem,Bool.and_true]
   ·have eF:alF m1 e1 m2 e2=e2:=by unfold alF;rw[if_neg y1,if_neg y2,if_neg c3]
    have eE:alE m1 e1 m2 e2=e2:=by unfold alE;rw[if_neg y2,if_neg y1,if_pos (by omega)]
    have a2:alA m2 e2 (alE m1 e1 m2 e2)=m2:=by rw[eE];unfold alA;rw[Int.sub_self];simp
    have ek:e1-e2=(((e1-e2).toNat:Nat):Int):=by omega
    have hb:bl (m1*2^(e1-e2).toNat)≤6000000:=by have:=Xi m1 (e1-e2).toNat;omega
    have l3:=qB hb
    have hn:m1*2^(e1-e2).toNat≠0:=Nat.mul_ne_zero y1 (Nat.pos_iff_ne_zero.1 (Nat.pow_pos (by omega)))
    have hd:decide (m1*2^(e1-e2).toNat≠0)=true:=decide_eq_true hn
    simp(disch:=omega)only[go_sem,c3]
    refine qp rfl [⟨0,[],[]⟩,⟨1,[],[]⟩,⟨2,[],[]⟩,⟨3,[2],[]⟩,⟨4,[2],[]⟩,⟨5,[2],[]⟩,⟨6,[2,5],[]⟩,⟨7,[2,5],[]⟩,⟨8,[2,5,7],[]⟩,⟨9,[2,5,7],[]⟩,⟨10,[2,5],[]⟩,⟨13,[2,5,7,9],[]⟩,⟨14,[2,5,7,9],[]⟩,⟨15,[2,5,7,9,14],[]⟩,⟨16,[2,5,7,9,14],[]⟩,⟨11,[2,14,16],[]⟩,⟨12,[14,16],[]⟩,⟨17,[14,16],[]⟩,⟨18,[16],[]⟩,⟨19,[],[]⟩] (by kernel_rfl) ?_
    simp(disch:=omega)only[go_sem]
    refine qW (Yc m1 (e1-e2).toNat (by omega) (by omega)) (by simp(disch:=omega)only[go_sem,←ek]) ?_
    rintro r hs ⟨rfl,rfl,_⟩
    refine⟨by simp[qO],?_⟩
    simp(disch:=omega)only[go_sem]
    refine qa (zq s1 (m1*2^(e1-e2).toNat) (by omega)) ?_
    simp(disch:=omega)only[go_sem]
    refine qP (by simp(disch:=omega)only[go_sem]) ?_
    show qE _ 6 _=_
    rw[eF,a2,eE,hd];unfold alA
    simp(disch:=omega)only[go_sem,Bool.and_true]
theorem aqZ(s1:Bool)(m1:Nat)(e1:Int)(s2:Bool)(m2:Nat)(e2:Int)(h1:bl m1≤4000000)(h2:bl m2≤4000000)(he1: -1000000≤e1∧e1≤1000000)(he2: -1000000≤e2∧e2≤1000000)(z1:m1=0→s1=false)(z2:m2=0→s2=false):
  Con Tryz.prog 192 false [.ag [.v (.bool (s1)),.sl (lim (m1)).length (qc (lim (m1))),.v (.int .i64 (e1))],.ag [.v (.bool (s2)),.sl (lim (m2)).length (qc (lim (m2))),.v (.int .i64 (e2))]] [] (isA (.ag [.v (.bool (oS (adS s1 m1 e1 s2 m2 e2) (adM s1 m1 e1 s2 m2 e2))),.sl (lim (oM (adM s1 m1 e1 s2 m2 e2))).length (qc (lim (oM (adM s1 m1 e1 s2 m2 e2)))),.v (.int .i64 (oE (adM s1 m1 e1 s2 m2 e2) (alE m1 e1 m2 e2)))])):=by
 refine Con.frzA ?_
 have hE:=QI (m1:=m1) (m2:=m2) he1.1 he2.1
 have b1:=Zg (e:=e1) (E:=alE m1 e1 m2 e2) (C:=2000000) h1 (by omega)
 have b2:=Zg (e:=e2) (E:=alE m1 e1 m2 e2) (C:=2000000) h2 (by omega)
 have hF: -1000000≤alF m1 e1 m2 e2∧alF m1 e1 m2 e2≤1000000:=by
  unfold alF
  repeat' split
  all_goals omega
 have hX:oE (adM s1 m1 e1 s2 m2 e2) (alE m1 e1 m2 e2)=oE (adM s1 m1 e1 s2 m2 e2) (alF m1 e1 m2 e2):=by
  by_cases h:m1=0∧m2=0
  ·have:adM s1 m1 e1 s2 m2 e2=0:=by rw[h.1,h.2];unfold adM alA;rw[Nat.zero_mul,Nat.zero_mul];unfold suM;rw[yq,yq];rfl
   rw[this];rfl
  ·rw[aT6 _ _ _ _ h]
 rw[hX]
 have l1:=qB h1
 have l2:=qB h2
 refine Con.of_w (rs:=[.cell 4 40]) Tryz.func192 rfl Tryz.ntmps192 rfl ?_
 simp(disch:=omega)only[go_sem]
 refine qa (Jk s1 m1 e1 s2 m2 e2 h1 h2 he1 he2 z1 z2) ?_
 simp(disch:=omega)only[go_sem]
 unfold adS adM
 generalize alA m1 e1 (alE m1 e1 m2 e2)=A at*
 generalize alA m2 e2 (alE m1 e1 m2 e2)=B at*
 generalize alF m1 e1 m2 e2=E at*
 refine qa (aq2 s1 A s2 B (by omega) (by omega)) ?_
 simp(disch:=omega)only[go_sem]
 have hb:=afw (s1:=s1) (s2:=s2) b1 b2
 refine qa (jY (suS s1 A s2 B) (suM s1 A s2 B) E (by omega) (by omega)) ?_
 simp(disch:=omega)only[go_sem]
 exact ql
end Go.Ab
namespace Go.Ab
open Go Go.Proofs
def srM(s:Bool)(m:Nat)(e low mode:Int):Nat:=oM (roM s m e low mode)
def srE(s:Bool)(m:Nat)(e low mode:Int):Int:=if low≤e∨m=0 then e else oE (roM s m e low mode) low
end Go.Ab
namespace Go.Ab
open Go Go.Proofs
end Go.Ab
namespace Go.Ab
open Go Go.Proofs
theorem ajW(xs:List Int)(hl:xs.length≤2^40):Con Tryz.prog 252 true [.ag [.sl xs.length (qc xs)]] [] (isA (.v (.bool (YE xs)))):=by
 refine Con.of_aw Tryz.func252 rfl Tryz.ntmps252 (by simp) (by simp) (by simp) (W.sound ?_)
 show @W Tryz.prog 44 ⟨_⟩ ⟨fun x σ=>@qR _ _ _ ⟨_⟩ _ ⟨_⟩ x σ⟩ _ _
 simp(disch:=omega)only[go_sem]
 refine qe (fun h1=>?_) (fun h1=>?_)
 ·simp(disch:=omega)only[go_sem,h1]
  refine qx (by simp(disch:=omega)only[go_sem]) (by simp(disch:=omega)only[go_sem]) ⟨?_,rfl,rfl⟩
  have:¬(xs.length≤100):=by omega
  simp[zg,YE,this]
 ·simp(disch:=omega)only[go_sem,h1]
  refine qj (fun i:Nat=>[(1,.pt 30000000 0),(2,.v (.bool false)),(3,.v (.int .i64 i))]) (fun _=>[(30000000,.own 0 [.sl xs.length (qc xs)])]) (fun i=>i≤xs.length∧∀x∈xs.take i,0≤x∧x≤65535) (fun i=>xs.length-i) 0 ⟨by omega,by simp⟩
   (Le.lst [] _ _ rfl (by simp(disch:=omega)only[go_sem]) (by simp(disch:=omega)only[go_sem])) ?_
  rintro i ⟨hi,hx⟩
  simp(disch:=omega)only[go_sem]
  refine qe (fun h2=>?_) (fun h2=>?_)
  ·simp(disch:=omega)only[go_sem,h2]
   have hmem:xs.getD i 0∈xs:=by
    rw[List.getD_eq_getElem?_getD,List.getElem?_eq_getElem (by omega)];exact List.getElem_mem _
   have bad:¬(0≤xs.getD i 0∧xs.getD i 0≤65535)→YE xs=false:=by
    intro hc
    unfold YE
    have:xs.all (fun x=>decide (0≤x)&&decide (x≤65535))=false:=by
     rw[List.all_eq_false]
     refine⟨_,hmem,?_⟩
     simp only[Bool.and_eq_true,decide_eq_true_eq];exact hc
    rw[this];simp
   refine⟨by omega,by omega,?_⟩
   refine zG (fun h3=>?_) (fun h3=>?_)
   ·simp(disch:=omega)only[go_sem,h3]
    refine⟨by omega,by omega,?_⟩
    refine qe (fun h4=>?_) (fun h4=>?_)
    ·simp(disch:=omega)only[go_sem,h4]
     rw[bad (by omega)]
     exact qu
    ·simp(disch:=omega)only[go_sem,h4]
     refine qb (i+1) [] ⟨by omega,?_⟩ (by show xs.length-(i+1)<xs.length-i;omega) rfl (by simp(disch:=omega)only[go_sem];try omega) (by simp(disch:=omega)only[go_sem])
     intro x hxx
     rw[List.take_add_one]at hxx
     rcases List.mem_append.1 hxx with h|h
     ·exact hx x h
     ·rw[List.getElem?_eq_getElem (by omega)]at h
      simp at h
      rw[List.getD_eq_getElem?_getD,List.getElem?_eq_getElem (by omega)]at h3 h4
      simp at h3 h4
      subst h
      omega
   ·simp(disch:=omega)only[go_sem,h3]
    rw[bad (by omega)]
    exact qu
  ·have:i=xs.length:=by omega
   subst this
   rw[List.take_length]at hx
   have hall:xs.all (fun x=>decide (0≤x)&&decide (x≤65535))=true:=by
    rw[List.all_eq_true]
    intro x h;have:=hx x h;simp only[Bool.and_eq_true,decide_eq_true_eq];exact this
   have e1:decide (xs.length≤100)=true:=by simp;omega
   simp(disch:=omega)only[go_sem,h2]
   refine zG (fun h3=>?_) (fun h3=>?_)
   ·have en:((xs.length:Int)-1).toNat=xs.length-1:=by omega
    have hmem:xs.getD (xs.length-1) 0∈xs:=by
     rw[List.getD_eq_getElem?_getD,List.getElem?_eq_getElem (by omega)];exact List.getElem_mem _
    have hp:=hx _ hmem
    simp(disch:=omega)only[go_sem,h3,en]
    refine⟨by omega,by omega,?_⟩
    refine qx (by simp(disch:=omega)only[go_sem]) (by simp(disch:=omega)only[go_sem]) ⟨?_,rfl,rfl⟩
    have e2:decide (xs.length=0)=false:=by simp;intro h;subst h;simp at h3
    show AV.v (.bool _)=AV.v (.bool _)
    unfold YE
    rw[e1,hall,e2,Bool.false_or,Bool.true_and,Bool.true_and]
    congr 2
    rw[decide_eq_decide]
    omega
   ·simp(disch:=omega)only[go_sem,h3]
    refine qx (by simp(disch:=omega)only[go_sem]) (by simp(disch:=omega)only[go_sem]) ⟨?_,rfl,rfl⟩
    have e2:decide (xs.length=0)=true:=by simp;exact List.length_eq_zero_iff.1 (by omega)
    show AV.v (.bool _)=AV.v (.bool _)
    unfold YE
    rw[e1,hall,e2]
    simp
theorem Zc(s:Bool)(xs:List Int)(hl:xs.length≤2^40):Con Tryz.prog 196 true [.ag [.v (.bool s),.sl xs.length (qc xs)]] [] (isA (.v (.bool (zO s xs)))):=by
 refine Con.of_aw Tryz.func196 rfl Tryz.ntmps196 (by simp) (by simp) (by simp) (W.sound ?_)
 show @W Tryz.prog 18 ⟨_⟩ ⟨fun x σ=>@qR _ _ _ ⟨_⟩ _ ⟨_⟩ x σ⟩ _ _
 simp(disch:=omega)only[go_sem]
 refine qh (ajW xs hl) ?_
 simp(disch:=omega)only[go_sem]
 refine yU (fun h1=>?_) (fun h1=>?_)
 ·simp(disch:=omega)only[go_sem,h1]
  cases s
  ·simp(disch:=omega)only[go_sem]
   refine qx (by simp(disch:=omega)only[go_sem]) (by simp(disch:=omega)only[go_sem]) ⟨?_,rfl,rfl⟩
   simp[zg,zO,h1]
  ·simp(disch:=omega)only[go_sem]
   refine qx (by simp(disch:=omega)only[go_sem]) (by simp(disch:=omega)only[go_sem]) ⟨?_,rfl,rfl⟩
   show AV.v (.bool _)=AV.v (.bool _)
   unfold zO
   rw[h1,Bool.true_and,Bool.true_and,←decide_not]
   congr 2
   rw[decide_eq_decide]
   omega
 ·simp(disch:=omega)only[go_sem,h1]
  refine qx (by simp(disch:=omega)only[go_sem]) (by simp(disch:=omega)only[go_sem]) ⟨?_,rfl,rfl⟩
  simp[zg,zO,h1]
theorem jD(s:Bool)(xs:List Int)(e:Int)(hl:xs.length≤2^40):Con Tryz.prog 116 true [.ag [.v (.bool s),.sl xs.length (qc xs),.v (.int .i64 e)]] [] (isA (.v (.bool (dyB s xs e)))):=by
 refine Con.of_aw Tryz.func116 rfl Tryz.ntmps116 (by simp) (by simp) (by simp) (W.sound ?_)
 show @W Tryz.prog 31 ⟨_⟩ ⟨fun x σ=>@qR _ _ _ ⟨_⟩ _ ⟨_⟩ x σ⟩ _ _
 simp(disch:=omega)only[go_sem]
 refine qh (Zc s xs hl) ?_
 simp(disch:=omega)only[go_sem]
 refine yU (fun hw=>?_) (fun hw=>?_)
 ·have h1:=hw
  simp only[zO,Bool.and_eq_true]at h1
  obtain⟨hx,hll⟩:=Zy h1.1
  have hxs:xs=lim (vl xs).toNat:=hx
  generalize hm:(vl xs).toNat=m at*
  subst hx
  simp(disch:=omega)only[go_sem,hw]
  refine zG (fun h2=>?_) (fun h2=>?_)
  ·simp(disch:=omega)only[go_sem,h2]
   refine qe (fun h3=>?_) (fun h3=>?_)
   ·simp(disch:=omega)only[go_sem,h3]
    refine qx (by simp(disch:=omega)only[go_sem]) (by simp(disch:=omega)only[go_sem]) ⟨?_,rfl,rfl⟩
    have a2:¬e≤3000:=by omega
    simp[zg,dyB,a2]
   ·simp(disch:=omega)only[go_sem,h3]
    refine qe (fun h4=>?_) (fun h4=>?_)
    ·simp(disch:=omega)only[go_sem,h4]
     have h0:m=0:=qI.1 (List.length_eq_zero_iff.1 (by omega))
     refine qx (by simp(disch:=omega)only[go_sem]) (by simp(disch:=omega)only[go_sem]) ⟨?_,rfl,rfl⟩
     have a1: -3000≤e:=by omega
     have a2:e≤3000:=by omega
     have a3:(lim m).length=0:=by omega
     show AV.v (.bool _)=AV.v (.bool _)
     unfold dyB
     rw[hw,hm,decide_eq_true a1,decide_eq_true a2,decide_eq_true a3,h0]
     simp
    ·simp(disch:=omega)only[go_sem,h4]
     refine qh (aaE m 0 (by omega) (by omega) (by omega)) ?_
     simp(disch:=omega)only[go_sem]
     refine qx (by simp(disch:=omega)only[go_sem]) (by simp(disch:=omega)only[go_sem]) ⟨?_,rfl,rfl⟩
     have a1: -3000≤e:=by omega
     have a2:e≤3000:=by omega
     have a3:¬(lim m).length=0:=by omega
     show AV.v (.bool _)=AV.v (.bool _)
     unfold dyB
     rw[hw,hm,decide_eq_true a1,decide_eq_true a2,decide_eq_false a3]
     simp
     omega
  ·simp(disch:=omega)only[go_sem,h2]
   refine qx (by simp(disch:=omega)only[go_sem]) (by simp(disch:=omega)only[go_sem]) ⟨?_,rfl,rfl⟩
   have a1:¬ -3000≤e:=by omega
   simp[zg,dyB,a1]
 ·simp(disch:=omega)only[go_sem,hw]
  refine qx (by simp(disch:=omega)only[go_sem]) (by simp(disch:=omega)only[go_sem]) ⟨?_,rfl,rfl⟩
  simp[zg,dyB,hw]
end Go.Ab
namespace Go.Ab
open Go Go.Proofs
theorem QB(s:Bool)(m:Nat)(e:Int):dyB (oS s m) (lim (oM m)) (oE m e)=jP m e:=by
 unfold dyB zO jP jV
 rw[q8,Int.toNat_natCast]
 have hod:=aPe m
 have hz:=bes s m
 by_cases h:(lim (oM m)).length≤100
 ·rw[apx _ h,decide_eq_true h,Bool.true_and,Bool.true_and]
  by_cases h0:oM m=0
  ·have hm:m=0:=yM.1 h0
   rw[hz h0,h0,hm]
   simp[oE,qo]
  ·have h1:oM m % 2=1:=hod.resolve_right h0
   have h2:decide ((lim (oM m)).length=0)=false:=by
    have:=Qu h0
    exact decide_eq_false (by omega)
   rw[h2,decide_eq_true h1]
   simp
 ·rw[decide_eq_false h]
  have:YE (lim (oM m))=false:=by unfold YE;rw[decide_eq_false h,Bool.false_and]
  rw[this];simp
theorem aj2(s:Bool)(m:Nat)(e:Int)(hl:(lim (oM m)).length≤2^40):Con Tryz.prog 179 false [.ag [.v (.bool (oS s m)),.sl (lim (oM m)).length (qc (lim (oM m))),.v (.int .i64 (oE m e))]] [] (isA (if jP m e=true then .tu [.ag [.v (.bool (oS s m)),.sl (lim (oM m)).length (qc (lim (oM m))),.v (.int .i64 (oE m e))],.v (.bool true)]else .tu [.ag [.v (.bool (false)),.sl (lim (0)).length (qc (lim (0))),.v (.int .i64 (0))],.v (.bool false)])):=by
 refine Con.frzA ?_
 have ck:=jD (oS s m) (lim (oM m)) (oE m e) hl
 rw[QB]at ck
 cases hd:jP m e
 ·rw[hd]at ck
  rw[if_neg (by simp),qo]
  refine Con.of_w (rs:=[.cell 2 40,.tmp 3]) Tryz.func179 rfl Tryz.ntmps179 rfl ?_
  simp(disch:=omega)only[go_sem]
  refine qh (ck) ?_
  simp(disch:=omega)only[go_sem]
  exact ql
 ·rw[hd]at ck
  rw[if_pos rfl]
  refine Con.of_w (rs:=[.cell 2 40,.tmp 3]) Tryz.func179 rfl Tryz.ntmps179 rfl ?_
  simp(disch:=omega)only[go_sem]
  refine qh (ck) ?_
  simp(disch:=omega)only[go_sem]
  exact ql
def pmS(s1:Bool)(m1:Nat)(s2:Bool)(m2:Nat):Bool:=(s1 != s2)&&decide (m1*m2≠0)
end Go.Ab
namespace Go.Ab
open Go Go.Proofs
theorem aq1(s1:Bool)(m1:Nat)(s2:Bool)(m2:Nat)(l1:(lim m1).length≤2^40)(l2:(lim m2).length≤2^40)(z1:m1=0→s1=false)(z2:m2=0→s2=false):
  Con Tryz.prog 209 true [.ag [.v (.bool (s1)),.sl (lim (m1)).length (qc (lim (m1)))],.ag [.v (.bool (s2)),.sl (lim (m2)).length (qc (lim (m2)))]] [] (isA (.v (.int .i64 (zr (sv s1 m1) (sv s2 m2))))):=by
 rw[aaS z1 z2]
 cases s1<;>cases s2
 ·refine Con.of_w (rs:=[.tmp 4]) Tryz.func209 rfl Tryz.ntmps209 rfl ?_
  simp(disch:=omega)only[go_sem]
  refine qh (Jn m1 m2 l1 l2) ?_
  simp(disch:=omega)only[go_sem]
  exact qu
 ·refine Con.of_w (rs:=[.tmp 4]) Tryz.func209 rfl Tryz.ntmps209 rfl ?_
  simp(disch:=omega)only[go_sem]
  exact qu
 ·refine Con.of_w (rs:=[.tmp 4]) Tryz.func209 rfl Tryz.ntmps209 rfl ?_
  simp(disch:=omega)only[go_sem]
  exact qu
 ·refine Con.of_w (rs:=[.tmp 4]) Tryz.func209 rfl Tryz.ntmps209 rfl ?_
  simp(disch:=omega)only[go_sem]
  refine qh (Jn m2 m1 l2 l1) ?_
  simp(disch:=omega)only[go_sem]
  exact qu
theorem aaC(K:Nat)(s1:Bool)(m1:Nat)(e1:Int)(s2:Bool)(m2:Nat)(e2:Int)(h1:bl m1≤4000000)(h2:bl m2≤4000000)(he1: -1000000≤e1∧e1≤1000000)(he2: -1000000≤e2∧e2≤1000000)(k1: -(K:Int)≤e1)(k2: -(K:Int)≤e2)(z1:m1=0→s1=false)(z2:m2=0→s2=false):
  Con Tryz.prog 132 true [.ag [.v (.bool (s1)),.sl (lim (m1)).length (qc (lim (m1))),.v (.int .i64 (e1))],.ag [.v (.bool (s2)),.sl (lim (m2)).length (qc (lim (m2))),.v (.int .i64 (e2))]] [] (isA (.v (.int .i64 (zr (dv K s1 m1 e1) (dv K s2 m2 e2))))):=by
 have hE:=QI (m1:=m1) (m2:=m2) he1.1 he2.1
 have b1:=qB (Zg (e:=e1) (E:=alE m1 e1 m2 e2) (C:=2000000) h1 (by omega))
 have b2:=qB (Zg (e:=e2) (E:=alE m1 e1 m2 e2) (C:=2000000) h2 (by omega))
 rw[←afs k1 k2]
 have y1:alA m1 e1 (alE m1 e1 m2 e2)=0→s1=false:=fun h=>z1 (QJ.1 h)
 have y2:alA m2 e2 (alE m1 e1 m2 e2)=0→s2=false:=fun h=>z2 (QJ.1 h)
 refine Con.of_w (rs:=[.tmp 4]) Tryz.func132 rfl Tryz.ntmps132 rfl ?_
 simp(disch:=omega)only[go_sem]
 refine qa (Jk s1 m1 e1 s2 m2 e2 h1 h2 he1 he2 z1 z2) ?_
 simp(disch:=omega)only[go_sem]
 refine qh (aq1 s1 (alA m1 e1 (alE m1 e1 m2 e2)) s2 (alA m2 e2 (alE m1 e1 m2 e2)) (by omega) (by omega) y1 y2) ?_
 simp(disch:=omega)only[go_sem]
 exact qu
theorem akj(s1:Bool)(m1:Nat)(e1:Int)(s2:Bool)(m2:Nat)(e2:Int)(h1:dyB s1 (lim m1) e1=true)(h2:dyB s2 (lim m2) e2=true):
  Con Tryz.prog 52 true [.ag [.v (.bool (s1)),.sl (lim (m1)).length (qc (lim (m1))),.v (.int .i64 (e1))],.ag [.v (.bool (s2)),.sl (lim (m2)).length (qc (lim (m2))),.v (.int .i64 (e2))]] [] (isA (.v (.int .i64 (zr (dv 3000 s1 m1 e1) (dv 3000 s2 m2 e2))))):=by
 obtain⟨n1,q1,b1,c1,d1,_,f1⟩:=QW h1
 obtain⟨n2,q2,b2,c2,d2,_,f2⟩:=QW h2
 obtain rfl:=yy q1
 obtain rfl:=yy q2
 have k1:=jD s1 (lim m1) e1 (by omega)
 have k2:=jD s2 (lim m2) e2 (by omega)
 rw[h1]at k1
 rw[h2]at k2
 refine Con.of_w (rs:=[.tmp 4]) Tryz.func52 rfl Tryz.ntmps52 rfl ?_
 simp(disch:=omega)only[go_sem]
 refine qh (k1) ?_
 simp(disch:=omega)only[go_sem]
 refine qh (k2) ?_
 simp(disch:=omega)only[go_sem]
 refine qh (aaC 3000 s1 m1 e1 s2 m2 e2 (by omega) (by omega) (by omega) (by omega) (by omega) (by omega) f1 f2) ?_
 simp(disch:=omega)only[go_sem]
 exact qu
theorem aNs(s:Bool)(m:Nat)(e:Int)(h:dyB s (lim m) e=true):Con Tryz.prog 125 false [.ag [.v (.bool (s)),.sl (lim (m)).length (qc (lim (m))),.v (.int .i64 (e))]] [] (isA (.ag [.v (.bool ((!s)&&decide (m≠0))),.sl (lim (m)).length (qc (lim (m))),.v (.int .i64 (e))])):=by
 refine Con.frzA ?_
 obtain⟨n1,q1,b1,c1,d1,_,f1⟩:=QW h
 obtain rfl:=yy q1
 have k1:=jD s (lim m) e (by omega)
 rw[h]at k1
 refine Con.of_w (rs:=[.cell 2 40]) Tryz.func125 rfl Tryz.ntmps125 rfl ?_
 simp(disch:=omega)only[go_sem]
 refine qh (k1) ?_
 simp(disch:=omega)only[go_sem]
 refine qa (aqY s m e (by omega)) ?_
 simp(disch:=omega)only[go_sem]
 exact ql
theorem Ze(n:Int)(h: -9223372036854775808≤n∧n<9223372036854775808):Con Tryz.prog 127 false [.v (.int .i64 n)] [] (isA (.ag [.v (.bool (decide (n<0))),.sl (lim (n.natAbs)).length (qc (lim (n.natAbs)))])):=by
 refine Con.frzA ?_
 refine Con.of_w (rs:=[.cell 2 38]) Tryz.func127 rfl Tryz.ntmps127 rfl ?_
 simp(disch:=omega)only[go_sem]
 refine qa (QD n h) ?_
 simp(disch:=omega)only[go_sem]
 exact ql
theorem aMp(e:Int):Con Tryz.prog 203 true [.v (.int .i64 e)] [] (isA (.v (.bool (decide (-12000≤e)&&decide (e≤12000))))):=by
 refine Con.of_aw Tryz.func203 rfl Tryz.ntmps203 (by simp) (by simp) (by simp) (W.sound ?_)
 show @W Tryz.prog 9 ⟨_⟩ ⟨fun x σ=>@qR _ _ _ ⟨_⟩ _ ⟨_⟩ x σ⟩ _ _
 simp(disch:=omega)only[go_sem]
 repeat' first
  |simp(disch:=omega)only[go_sem, *]
  |(with_reducible refine qe (fun _=>?_) (fun _=>?_))
  |(with_reducible refine zG (fun _=>?_) (fun _=>?_))
  |(with_reducible refine afi (fun _=>?_) (fun _=>?_))
  |(with_reducible refine yU (fun _=>?_) (fun _=>?_))
 all_goals exact qx (by simp(disch:=omega)only[go_sem]) (by simp(disch:=omega)only[go_sem]) ⟨by simp_all[zg]<;>omega,rfl,rfl⟩
theorem aaR(s:Bool)(m:Nat)(e:Int)(h:zO s (lim m)=true)(he: -12000≤e∧e≤12000):
  Con Tryz.prog 126 false [.ag [.v (.bool (s)),.sl (lim (m)).length (qc (lim (m)))],.v (.int .i64 e)] [] (isA (if jP m e=true then .tu [.ag [.v (.bool (oS s m)),.sl (lim (oM m)).length (qc (lim (oM m))),.v (.int .i64 (oE m e))],.v (.bool true)]else .tu [.ag [.v (.bool (false)),.sl (lim (0)).length (qc (lim (0))),.v (.int .i64 (0))],.v (.bool false)])):=by
 refine Con.frzA ?_
 have h':=h
 simp only[zO,Bool.and_eq_true]at h'
 obtain⟨_,hl⟩:=Zy h'.1
 have hb:=afy (m:=m)
 have hb2:=qB (Nat.le_trans (yh (apn m)) hb)
 have k1:=Zc s (lim m) (by omega)
 rw[h]at k1
 have k2:=aMp e
 rw[decide_eq_true he.1,decide_eq_true he.2]at k2
 have cf:=aj2 s m e (by omega)
 cases hd:jP m e
 ·rw[hd,if_neg (by simp),qo]at cf
  rw[if_neg (by simp),qo]
  refine Con.of_w (rs:=[.cell 4 40,.tmp 5]) Tryz.func126 rfl Tryz.ntmps126 rfl ?_
  simp(disch:=omega)only[go_sem]
  refine qh (k1) ?_
  simp(disch:=omega)only[go_sem]
  refine qh (k2) ?_
  simp(disch:=omega)only[go_sem]
  refine qa (jY s m e (by omega) (by omega)) ?_
  simp(disch:=omega)only[go_sem]
  refine qa (cf) ?_
  simp(disch:=omega)only[go_sem]
  exact ql
 ·rw[hd,if_pos rfl]at cf
  rw[if_pos rfl]
  refine Con.of_w (rs:=[.cell 4 40,.tmp 5]) Tryz.func126 rfl Tryz.ntmps126 rfl ?_
  simp(disch:=omega)only[go_sem]
  refine qh (k1) ?_
  simp(disch:=omega)only[go_sem]
  refine qh (k2) ?_
  simp(disch:=omega)only[go_sem]
  refine qa (jY s m e (by omega) (by omega)) ?_
  simp(disch:=omega)only[go_sem]
  refine qa (cf) ?_
  simp(disch:=omega)only[go_sem]
  exact ql
theorem aa5:tz 1=0:=aeS rfl
theorem Qa:lim 1=[1]:=by rw[yd (by omega)];simp[qo]
/-! ### Sameness-/
theorem aee(a b:Nat)(la:(lim a).length≤2^40)(lb:(lim b).length≤2^40):Con Tryz.prog 181 true [.ag [.sl (lim (a)).length (qc (lim (a)))],.ag [.sl (lim (b)).length (qc (lim (b)))]] [] (isA (.v (.bool (decide (a=b))))):=by
 refine Con.of_w (rs:=[.tmp 4]) Tryz.func181 rfl Tryz.ntmps181 rfl ?_
 simp(disch:=omega)only[go_sem]
 refine zG (fun h1=>?_) (fun h1=>?_)
 ·simp(disch:=omega)only[go_sem,h1]
  rw[decide_eq_false (fun e=>h1 (by rw[e]))]
  exact qu
 ·have hl:(lim a).length=(lim b).length:=by omega
  simp(disch:=omega)only[go_sem,h1]
  refine qj (fun i:Nat=>[(2,.pt 40000000 0),(3,.pt 50000000 0),(5,.v (.int .i64 i))]) (fun _=>[(40000000,.own 0 [.sl (lim (a)).length (qc (lim (a)))]),(50000000,.own 0 [.sl (lim (b)).length (qc (lim (b)))])])
   (fun i=>i≤(lim a).length∧(lim a).take i=(lim b).take i) (fun i=>(lim a).length-i) 0 ⟨by omega,by simp⟩ (Le.lst [] _ _ rfl (by simp(disch:=omega)only[go_sem];try omega) (by simp(disch:=omega)only[go_sem])) ?_
  rintro i ⟨hi,ht⟩
  simp(disch:=omega)only[go_sem]
  refine qe (fun h2=>?_) (fun h2=>?_)
  ·simp(disch:=omega)only[go_sem,h2]
   refine qp rfl [⟨0,[],[]⟩,⟨1,[],[]⟩,⟨2,[1],[]⟩,⟨3,[],[]⟩,⟨4,[],[]⟩,⟨5,[1,4],[]⟩,⟨6,[1,4],[]⟩,⟨7,[1,4,6],[]⟩,⟨8,[1,4],[]⟩,⟨9,[1,4],[]⟩,⟨10,[],[]⟩] (by kernel_rfl) ?_
   simp(disch:=omega)only[go_sem]
   refine⟨by omega,by omega,by omega,by omega,?_⟩
   refine zG (fun h3=>?_) (fun h3=>?_)
   ·simp(disch:=omega)only[go_sem,h3]
    rw[decide_eq_false (fun e=>h3 (by rw[e]))]
    exact qu
   ·simp(disch:=omega)only[go_sem,h3]
    refine qb (i+1) [] ⟨by omega,?_⟩ (by show(lim a).length-(i+1)<(lim a).length-i;omega) rfl (by simp(disch:=omega)only[go_sem];try omega) (by simp(disch:=omega)only[go_sem])
    rw[jR (l:=lim a) (by omega),jR (l:=lim b) (by omega),ht,h3]
  ·simp(disch:=omega)only[go_sem,h2]
   have:i=(lim a).length:=by omega
   subst this
   have ht2:lim a=lim b:=by
    have h4:=List.take_of_length_le (l:=lim b) (i:=(lim a).length) (by omega)
    rw[List.take_length,h4]at ht
    exact ht
   rw[decide_eq_true (yy ht2)]
   exact qu
theorem Y3(s1:Bool)(m1:Nat)(s2:Bool)(m2:Nat)(l1:(lim m1).length≤2^40)(l2:(lim m2).length≤2^40):Con Tryz.prog 100 true [.ag [.v (.bool (s1)),.sl (lim (m1)).length (qc (lim (m1)))],.ag [.v (.bool (s2)),.sl (lim (m2)).length (qc (lim (m2)))]] [] (isA (.v (.bool ((s1==s2)&&decide (m1=m2))))):=by
 refine Con.of_w (rs:=[.tmp 4]) Tryz.func100 rfl Tryz.ntmps100 rfl ?_
 cases hs:(s1==s2)
 ·simp(disch:=omega)only[go_sem,hs]
  exact qu
 ·simp(disch:=omega)only[go_sem,hs]
  refine qh (aee m1 m2 l1 l2) ?_
  simp(disch:=omega)only[go_sem]
  exact qu
theorem ajU(s1:Bool)(m1:Nat)(e1:Int)(s2:Bool)(m2:Nat)(e2:Int)(l1:(lim m1).length≤2^40)(l2:(lim m2).length≤2^40):Con Tryz.prog 27 true [.ag [.v (.bool (s1)),.sl (lim (m1)).length (qc (lim (m1))),.v (.int .i64 (e1))],.ag [.v (.bool (s2)),.sl (lim (m2)).length (qc (lim (m2))),.v (.int .i64 (e2))]] [] (isA (.v (.bool (decide (e1=e2)&&((s1==s2)&&decide (m1=m2)))))):=by
 cases he:decide (e1=e2)
 ·have he':¬e1=e2:=by simpa using he
  refine Con.of_w (rs:=[.tmp 4]) Tryz.func27 rfl Tryz.ntmps27 rfl ?_
  simp(disch:=omega)only[go_sem,he']
  exact qu
 ·refine Con.of_w (rs:=[.tmp 4]) Tryz.func27 rfl Tryz.ntmps27 rfl ?_
  simp(disch:=omega)only[go_sem,he]
  refine qh (Y3 s1 m1 s2 m2 l1 l2) ?_
  simp(disch:=omega)only[go_sem]
  exact qu
end Go.Ab
namespace Go.Ab
open Go Go.Proofs
theorem aaK(e:Int)(he: -3000≤e∧e≤3000):Con Tryz.prog 47 false [.v (.int .i64 1),.v (.int .i64 e)] [] (isA (.ag [.v (.bool (false)),.sl (lim (1)).length (qc (lim (1))),.v (.int .i64 (e))])):=by
 refine Con.frzA ?_
 have hm:oM 1=1:=by unfold oM;rw[aa5]
 have hE:oE 1 e=e:=by unfold oE;rw[aa5,if_neg (by decide)];simp
 have hf:jP 1 e=true:=by
  unfold jP jV;rw[hm,hE,Qa]
  simp only[Bool.and_eq_true,decide_eq_true_eq]
  exact⟨by decide,by omega,by omega⟩
 have c1:=aaR false 1 e (by rw[Qa];decide) (by omega)
 rw[if_pos hf,hm,hE]at c1
 have c0:=Ze 1 (by omega)
 have e1:decide ((1:Int)<0)=false:=rfl
 have e2:(1:Int).natAbs=1:=rfl
 rw[e1,e2]at c0
 refine Con.of_aw Tryz.func47 rfl Tryz.ntmps47 (by simp) (by simp) (by simp) (W.sound ?_)
 show @W Tryz.prog 15 ⟨_⟩ ⟨fun x σ=>@qR _ _ _ ⟨_⟩ _ ⟨_⟩ x σ⟩ _ _
 simp(disch:=omega)only[go_sem]
 refine qa (c0) ?_
 simp(disch:=omega)only[go_sem]
 refine qa (c1) ?_
 simp(disch:=omega)only[go_sem]
 refine qP (by simp(disch:=omega)only[go_sem]) ?_
 show qE _ 6 _=_
 rfl
theorem aFX:tz 1024=10:=ZD (a:=0) (by decide)
theorem aTG:(ExV.can ⟨false,1024, -10⟩)=⟨false,1,0⟩:=by
 show(⟨oS false 1024,oM 1024,oE 1024 (-10)⟩:ExV)=_
 unfold oS oM oE
 rw[aFX];rfl
theorem arw:(ExV.can ⟨false,1, -14⟩)=⟨false,1, -14⟩:=by
 show(⟨oS false 1,oM 1,oE 1 (-14)⟩:ExV)=_
 unfold oS oM oE
 rw[aa5];rfl
theorem YU(x:ExV)(a:Nat)(s:Bool)(e:Int)(h:x.can=⟨s,a,e⟩)(h1:(lim a).length≤100)(h2: -3000≤e∧e≤3000):x.fit=true:=by
 have e1:oM x.m=a:=congrArg ExV.m h
 have e2:oE x.m x.e=e:=congrArg ExV.e h
 unfold ExV.fit jP jV
 rw[e1,e2]
 simp only[Bool.and_eq_true,decide_eq_true_eq]
 exact⟨h1,h2⟩
theorem aeB(n:Nat)(h1:n=1):Con Tryz.prog 89 false [.ag [.v (.int .i64 (n)),.sl ([ex0]).length (qm ExV.cs ([ex0]))],.v (.int .i64 (-10))] [] (isA (.tu [.ag [.v (.int .i64 (n)),.sl ([ex1]).length (qm ExV.cs ([ex1]))],.ag [.v (.bool (false)),.sl (lim (1)).length (qc (lim (1))),.v (.int .i64 (-14))],.v (.bool true)])):=by
 have c:=aeA n [ex0] (-10) aFx (by omega) (by rw[h1];rfl) (by omega) (aaH n h1) (aq9 n h1) (by rw[h1];decide+kernel) (by decide+kernel) (by
  rw[show aFx=[⟨⟨false,16383, -14⟩,⟨false,16385, -14⟩⟩] by decide+kernel,List.all_cons,List.all_nil]
  have t1:tz 16383=0:=aeS rfl
  have t2:tz 16385=0:=aeS rfl
  have f1:ExV.fit ⟨false,16383, -14⟩=true:=YU _ 16383 false (-14) (by show(⟨oS false 16383,oM 16383,oE 16383 (-14)⟩:ExV)=_;unfold oS oM oE;rw[t1];rfl) (by have:=qB (m:=16383) (B:=20) (zy.2 (by decide));omega) (by omega)
  have f2:ExV.fit ⟨false,16385, -14⟩=true:=YU _ 16385 false (-14) (by show(⟨oS false 16385,oM 16385,oE 16385 (-14)⟩:ExV)=_;unfold oS oM oE;rw[t2];rfl) (by have:=qB (m:=16385) (B:=20) (zy.2 (by decide));omega) (by omega)
  unfold SpV.fit
  rw[f1,f2];rfl)
 have eX:afl n aFx (-10)=[⟨false,1024, -10⟩]:=by rw[h1];decide+kernel
 have eF:jW n aFx (-10)=⟨false,1, -14⟩:=by rw[h1];decide+kernel
 rw[eX,eF]at c
 have f1:ExV.fit ⟨false,1024, -10⟩=true:=YU _ 1 false 0 aTG (by rw[Qa];decide) (by omega)
 have f2:ExV.fit ⟨false,1, -14⟩=true:=YU _ 1 false (-14) arw (by rw[Qa];decide) (by omega)
 rw[List.all_cons,List.all_nil,f1,f2,if_pos (by rfl),List.map_cons,List.map_nil,aTG,arw]at c
 exact c
set_option maxRecDepth 100000 in
theorem Jp:Con Tryz.prog 16 true [] [] (isA (.v (.bool true))):=by
 obtain⟨n,hn⟩:∃n:Nat,n=1:=⟨1,rfl⟩
 have c:=aeB n hn
 have en:(n:Int)=1:=by omega
 have hrow:qm ExV.cs [ex0]=[.v (.bool false),.sl 0 [],.v (.int .i64 0)]:=by
  simp[qm,ExV.cs,ex0,qo,qc]
 rw[en,hrow]at c
 have hr1:qm ExV.cs [ex1]=[.v (.bool false),.sl (lim 1).length (qc (lim 1)),.v (.int .i64 0)]:=by
  simp[qm,ExV.cs,ex1]
 rw[hr1]at c
 have cd1:=aaK 0 (by omega)
 have cd2:=aaK (-9) (by omega)
 have csd:=ajU false 1 0 false 1 0 (by rw[Qa];decide) (by rw[Qa];decide)
 rw[show(decide ((0:Int)=0)&&((false==false)&&decide ((1:Nat)=1)))=true from rfl]at csd
 have hb:∀e:Int, -3000≤e∧e≤3000→dyB false (lim 1) e=true:=fun e he=>by
  rw[Qa];unfold dyB
  rw[show zO false [1]=true by decide,decide_eq_true he.1,decide_eq_true he.2];rfl
 have ccm:=akj false 1 (-14) false 1 (-9) (hb _ (by omega)) (hb _ (by omega))
 have hle:zr (dv 3000 false 1 (-14)) (dv 3000 false 1 (-9))≤0:=(Qh _ _).1.2 (by
  unfold dv sv
  rw[if_neg (by simp),show(-9+((3000:Nat):Int)).toNat=(-14+((3000:Nat):Int)).toNat+5 by rfl,Int.pow_add]
  have:(0:Int)<2^(-14+((3000:Nat):Int)).toNat:=Int.pow_pos (by omega)
  generalize (2:Int)^(-14+((3000:Nat):Int)).toNat=p at*
  omega)
 have q3:decide (zr (dv 3000 false 1 (-14)) (dv 3000 false 1 (-9))≤0)=true:=decide_eq_true hle
 generalize zr (dv 3000 false 1 (-14)) (dv 3000 false 1 (-9))=C at*
 refine Con.of_aw Tryz.func16 rfl Tryz.ntmps16 (by simp) (by simp) (by simp)
  (AW.seqLe (E:=[(0,.v (.bool false))]) (H:=[]) (W.sound ?_) (AW.regSplit (E:=[(0,.v (.bool false)),(7,.ag [.v (.int .i64 1),.sl 1 [.v (.bool false),.sl 0 [],.v (.int .i64 0)]])]) (H:=[]) 3 (by simp only[List.take_succ_cons,List.take_zero];rfl) (by simp only[List.drop_succ_cons,List.drop_zero];rfl) ?_ ?_))
 ·show @W Tryz.prog 38 ⟨_⟩ ⟨_⟩ _ _
  simp(disch:=omega)only[go_sem]
  exact Le.lst [] _ _ rfl (by simp(disch:=omega)only[go_sem]) (by simp(disch:=omega)only[go_sem])
 ·simp(disch:=omega)only[go_sem]
  exact(Le.nilC 80000000 1 (zo:=3) (cs:=[.v (.bool false),.v (.slice none 0 0),.v (.int .i64 0)]) (by simp(disch:=omega)only[go_sem]) rfl).trans ((Le.frz 80000000 (z:=3) (ks:=[.v (.bool false),.sl 0 [],.v (.int .i64 0)]) (by simp(disch:=omega)only[go_sem,List.set_cons_succ,List.set_cons_zero]) rfl (by simp(disch:=omega)only[go_sem])).trans (Le.lst [] _ _ rfl (by simp(disch:=omega)only[go_sem]) (by simp(disch:=omega)only[go_sem])))
 show @Ch Tryz.prog 38 ⟨_⟩ ⟨_⟩ ⟨fun σ=>@W Tryz.prog 38 ⟨_⟩ ⟨fun x σ=>@qR _ _ _ ⟨_⟩ _ ⟨_⟩ x σ⟩ σ.env σ.hp⟩ _ _
 simp(disch:=omega)only[go_sem]
 refine qa (c) ?_
 simp(disch:=omega)only[go_sem]
 refine qp rfl [⟨0,[],[]⟩,⟨1,[],[]⟩,⟨2,[],[]⟩,⟨3,[],[]⟩,⟨4,[],[]⟩,⟨5,[],[]⟩,⟨6,[],[]⟩,⟨7,[],[]⟩,⟨8,[],[]⟩,⟨9,[],[]⟩,⟨10,[],[]⟩,⟨11,[],[]⟩,⟨12,[],[]⟩,⟨13,[],[]⟩,⟨14,[],[]⟩,⟨15,[],[]⟩,⟨16,[],[]⟩,⟨17,[14,16],[]⟩,⟨18,[],[]⟩,⟨19,[],[]⟩,⟨20,[],[]⟩,⟨21,[],[]⟩,⟨22,[21],[]⟩,⟨23,[],[]⟩,⟨24,[],[]⟩,⟨25,[],[]⟩,⟨26,[],[]⟩] (by kernel_rfl) ?_
 simp(disch:=omega)only[go_sem]
 refine qa (cd1) ?_
 simp(disch:=omega)only[go_sem]
 refine qh (csd) ?_
 simp(disch:=omega)only[go_sem]
 refine qa (cd2) ?_
 simp(disch:=omega)only[go_sem]
 refine qh (ccm) ?_
 simp(disch:=omega)only[go_sem]
 simp(disch:=omega)only[go_sem,q3]
 exact qu
end Go.Ab
namespace Go.Ab
end Go.Ab
namespace Go.Ab
open Go Go.Proofs
def ExV.val(K:Nat)(x:ExV):Int:=dv K x.s x.m x.e
theorem zW{x:ExV}(h:x.ok=true):(-3000≤x.e∧x.e≤3000)∧bl x.m≤1600∧(lim x.m).length≤100∧(x.m=0→x.s=false∧x.e=0)∧(x.m % 2=1∨x.m=0):=by
 obtain⟨m,e1,h1,h2,h3,h4,h5⟩:=QW h
 obtain rfl:=yy e1
 exact⟨h3,h2,h1,fun h0=>⟨h5 h0,by omega⟩,by omega⟩
theorem aFm{x:ExV}(h:x.ok=true):x.can=x:=by
 obtain⟨h1,h2,h3,h4,h5⟩:=zW h
 show(⟨oS x.s x.m,oM x.m,oE x.m x.e⟩:ExV)=x
 obtain⟨s,m,e⟩:=x
 dsimp only at*
 rcases h5 with o|h0
 ·have h0:m≠0:=by omega
  have ht:=aeS o
  have g1:oS s m=s:=by unfold oS;rw[if_neg h0]
  have g2:oM m=m:=by have:=@aFn m;rw[ht]at this;simpa using this
  have g3:oE m e=e:=by unfold oE;rw[if_neg h0,ht];simp
  rw[g1,g2,g3]
 ·obtain⟨rfl,rfl⟩:=h4 h0
  rw[h0,Z1];rfl
theorem afu{x:ExV}(h:x.fit=true):x.can.ok=true:=by
 show dyB (oS x.s x.m) (lim (oM x.m)) (oE x.m x.e)=true
 rw[QB];exact h
theorem aas:ex0.ok=true:=by show dyB false (lim 0) 0=true;rw[qo];decide
theorem Q6{K:Nat}{x:ExV}(h: -(K:Int)≤x.e):x.can.val K=x.val K:=by
 show dv K (oS x.s x.m) (oM x.m) (oE x.m x.e)=_
 rw[aMl h,bbC];rfl
theorem Qq{K:Nat}{x y:ExV}(h1: -(K:Int)≤x.e)(h2: -(K:Int)≤y.e):(x.plus y).val K=x.val K+y.val K:=bbW h1 h2
theorem Xp{K K':Nat}{x y:ExV}(h1: -(K:Int)≤x.e)(h2: -(K':Int)≤y.e):(x.times y).val (K+K')=x.val K*y.val K':=by
 show dv (K+K') ((x.s != y.s)&&decide (x.m*y.m≠0)) (x.m*y.m) (x.e+y.e)=_
 rw[aTr];exact aTq h1 h2
theorem aeQ{K j:Nat}{x:ExV}(h: -(K:Int)≤x.e):x.val (K+j)=x.val K*2^j:=by
 unfold ExV.val dv
 have:(x.e+((K+j:Nat):Int)).toNat=(x.e+(K:Int)).toNat+j:=by omega
 rw[this,Int.pow_add,Int.mul_assoc]
theorem K1{K:Int}{x y:ExV}(h1:K≤x.e)(h2:K≤y.e):K≤(x.plus y).e:=QI h1 h2
theorem aeE(x:ExV):x.can.ok=x.fit:=QB x.s x.m x.e
def ExV.tel(x:ExV):ExV:=if x.fit=true then x.can else ex0
theorem aeY(x:ExV):x.tel.ok=true:=by
 unfold ExV.tel;split
 ·rename_i h;exact afu h
 ·exact aas
/-! ### Floats that are numbers-/
def flD(F:FlV):ExV:=⟨oS (xS F.k F.s) F.m.toNat,oM F.m.toNat,oE F.m.toNat F.e⟩
end Go.Ab
namespace Go.Ab
open Go
section
variable {P:Program}{f:FuncId}{args:List AV}{bs:List Ob}{post:AV→List Ob→List Ob→Prop}
theorem Con.frzB(h:Con P f false args bs post)(hm:∀r hs bs',post r hs bs'→(∀ob∈bs',ob.men fun _=>False)∧∀ob∈hs,ob.men fun _=>False):
  Con P f false args bs (fun r' hs' bs'=>hs'=[]∧∃r hs,post r hs bs'∧r'=qE (rhp hs []) 6 r):=by
 intro R ι w vs h1 h2 h3 h4 h5
 refine(h R ι w vs h1 h2 h3 h4 h5).mono ?_
 rintro e w' ⟨x,r,hs,bs',R',ι',he,hp,hF⟩
 obtain⟨mB,mH⟩:=hm _ _ _ hp
 have hfree:∀m,10000000≤m→rhp hs [] m=.free:=fun m hm=>by simp[rhp,hm]
 have hlow:∀m,m<10000000→rhp hs [] m=rhp hs bs' m:=fun m hm=>by unfold rhp;rw[if_neg (by omega),if_neg (by omega)]
 have hnil:∀m,m<10000000→rhp [] bs' m=.free:=fun m hm=>by unfold rhp;rw[if_neg (by omega)];simp
 have hhi:∀m,10000000≤m→rhp [] bs' m=rhp hs bs' m:=fun m hm=>by unfold rhp;rw[if_pos hm,if_pos hm]
 have hsm:∀{m z cs},rhp hs [] m=.own z cs→m<10000000∧rhp hs bs' m=.own z cs:=by
  intro m z cs e
  rcases Nat.lt_or_ge m 10000000 with hm|hm
  ·exact⟨hm,by rw[←hlow m hm];exact e⟩
  ·rw[hfree m hm]at e;cases e
 have hbg:∀{m z cs},rhp [] bs' m=.own z cs→10000000≤m∧rhp hs bs' m=.own z cs:=by
  intro m z cs e
  rcases Nat.lt_or_ge m 10000000 with hm|hm
  ·rw[hnil m hm]at e;cases e
  ·exact⟨hm,by rw[←hhi m hm];exact e⟩
 have hget:∀(l:List Ob) (k z:Nat) (cs:List AV),(∀ob∈l,ob.men fun _=>False)→l.getD k .free=.own z cs→AllL (fun _=>False) cs:=by
  intro l k z cs hl e
  rw[List.getD_eq_getElem?_getD]at e
  rcases Nat.lt_or_ge k l.length with hk|hk
  ·rw[List.getElem?_eq_getElem hk]at e
   have:=hl _ (List.getElem_mem hk)
   simp only[Option.getD_some]at e
   rw[e]at this;exact this
  ·rw[List.getElem?_eq_none hk]at e;cases e
 have hO:HpOk R' ι' w' (rhp hs []):=by
  refine⟨fun m=>?_,fun m z cs B e hB hr=>hF.nR m z cs B (hsm e).2 hB (.inr hr),fun m m' z z' cs cs' B B' e e'=>hF.inj m m' z z' cs cs' B B' (hsm e).2 (hsm e').2,fun m z cs e=>?_⟩
  ·rcases Nat.lt_or_ge m 10000000 with hm|hm
   ·rw[hlow m hm];exact hF.okF m hm
   ·rw[hfree m hm];trivial
  ·have h6:=(hsm e).1
   unfold rhp at e
   rw[if_neg (by omega)]at e
   exact(hget hs m z cs mH e).mono fun _ h=>h.elim
 have hown:∀{m z cs B},rhp hs [] m=.own z cs→ι' m=some B→w.heap.size≤B.b∧B.b<w'.heap.size:=by
  intro m z cs B e hB
  obtain⟨hm,e⟩:=hsm e
  refine⟨hF.fresh m z cs B hm e hB,?_⟩
  have:=hF.okF m hm
  rw[e,hB]at this
  obtain⟨c,T,lo,hi,g1,_⟩:=this
  rcases Nat.lt_or_ge B.b w'.heap.size with h'|h'
  ·exact h'
  ·simp[Array.getElem?_eq_none h']at g1
 refine⟨x,qE (rhp hs []) 6 r,[],bs',fun b=>R' b∨ar9 (rhp hs []) ι' b,ι',he,⟨rfl,r,hs,hp,rfl⟩,?_⟩
 refine⟨hF.ext,fun b hb=>?_,fun b hb=>?_,.fr _ _ (zJ hO (fun _ h=>.inl h) (fun _ h=>.inr h) 6 hF.rep),jo 6 r,fun m hm=>?_,fun m hm=>?_,fun m z cs B e hB=>?_,
  fun m m' z z' cs cs' B B' e e'=>hF.inj m m' z z' cs cs' B B' (hbg e).2 (hbg e').2,fun m z cs e=>?_,fun m z cs B hm e=>?_,hF.len,hF.bown,hF.bnf⟩
 ·rcases hb with hb|⟨m,z,cs,B,e,hB,rfl⟩
  ·exact hF.rlt b hb
  ·exact(hown e hB).2
 ·rcases hb with hb|⟨m,z,cs,B,e,hB,rfl⟩
  ·exact hF.rnew b hb
  ·exact .inl (hown e hB).1
 ·rw[hnil m hm];trivial
 ·rw[hhi m hm]
  exact(hF.okB m hm).mono (fun _ _=>rfl) (fun _ _ _ _ _=>rfl) (fun b hb=>hb.elim .inl fun h=>.inr (.inl h)) (fun z cs e=>AllL.of_mem fun a _=>AV.all_true (fun _=>rfl) a)
 ·obtain⟨hm,e⟩:=hbg e
  have h6:=hF.nR m z cs B e hB
  rintro(hr|hr|⟨m',z',cs',B',e',hB',hb⟩)
  ·exact h6 (.inl hr)
  ·exact h6 (.inr hr)
  ·obtain⟨hm',e'⟩:=hsm e'
   have:=hF.inj m' m z' z cs' cs B' B e' e hB' hB hb
   omega
 ·have h6:=(hbg e).1
  unfold rhp at e
  rw[if_pos h6]at e
  exact(hget bs' _ z cs mB e).mono fun _ h=>h.elim
 ·rw[hnil m hm]at e;cases e
end
end Go.Ab
namespace Go.Ab
open Go
structure IvV where
 lo:DyV
 hi:DyV
def IvV.cs(x:IvV):List AV:=x.lo.cs++x.hi.cs
def dy0:DyV:=⟨false,[],0⟩
def iv0:IvV:=⟨dy0,dy0⟩
theorem aal(x:IvV):x.cs.length=6:=rfl
theorem aFt{ρ:Nat→Nat}(x:IvV):zK ρ x.cs=x.cs:=rfl
theorem apX{hp:Nat→Ob}{k:Nat}(x:IvV):x.cs.map (qE hp (k+1))=x.cs:=rfl
theorem aFu{p:Nat→Prop}(x:IvV):AllL p x.cs:=by simp[IvV.cs,DyV.cs,AllL,AV.All]
theorem aLf{l:List IvV}:(qm IvV.cs l).length=l.length*6:=y8 aal
theorem aLe{ρ:Nat→Nat}{l:List IvV}:zK ρ (qm IvV.cs l)=qm IvV.cs l:=ZS aFt
theorem afc{hp:Nat→Ob}{k:Nat}{l:List IvV}:(qm IvV.cs l).map (qE hp (k+1))=qm IvV.cs l:=Qo apX
theorem apW{p:Nat→Prop}{l:List IvV}:AllL p (qm IvV.cs l)=True:=eq_true (ZU aFu)
theorem aCr{p:Nat→Prop}{x:IvV}:AllL p x.cs=True:=eq_true (aFu x)
attribute [go_sem] aLf aLe afc apW aCr aFt apX
end Go.Ab
namespace Go.Ab
open Go Go.Proofs
section
variable (g:Nat)(p:IvV→Bool)
theorem akh(x:IvV)(hf:Con Tryz.prog g true [.ag x.cs] [] (isA (.v (.bool (p x)))))(hg:qq Tryz.prog g=True):
  Con Tryz.prog 241 true [.ag x.cs,.fp [.fn g []] 0] [] (isA (.v (.bool (!p x)))):=by
 unfold IvV.cs DyV.cs at hf ⊢
 refine Con.of_w (rs:=[.tmp 3]) Tryz.func241 rfl Tryz.ntmps241 rfl ?_
 simp(disch:=omega)only[go_sem,hg]
 refine qz hf (by simp(disch:=omega)only[go_sem]) ?_
 rintro r hs ⟨rfl,rfl,_⟩
 refine⟨by simp[qO],?_⟩
 simp(disch:=omega)only[go_sem]
 exact qu
theorem aep(f:Nat)(caps:List AV)(xs:List IvV)(hl:xs.length≤2^40)(hf:∀x∈xs,Con Tryz.prog f true (.ag x.cs::caps) [] (isA (.v (.bool (p x)))))(hg:qq Tryz.prog f=True)
  (hc:∀h:Nat→Ob,caps.map (qE h 6)=caps) (hc5:∀h:Nat→Ob,caps.map (qE h 5)=caps) (hn:∀ks,AllL (yj ks) caps) (hr:∀ρ,zK ρ caps=caps):
  Con Tryz.prog 274 true [.sl xs.length (qm IvV.cs xs),.fn f caps] [] (fun r hs bs=>∃i:Int,r=.v (.int .i64 i)∧hs=[]∧(0≤i↔∃x∈xs,p x=true)):=by
 refine Con.of_aw Tryz.func274 rfl Tryz.ntmps274 (by simp) (by simp) (by simp) (W.sound ?_)
 show @W Tryz.prog 19 ⟨_⟩ ⟨fun x σ=>@qR _ _ _ ⟨_⟩ _ ⟨_⟩ x σ⟩ _ _
 simp(disch:=omega)only[go_sem]
 refine qj (fun i:Nat=>[(0,.sl xs.length (qm IvV.cs xs)),(1,.fn f caps),(6,.sl xs.length (qm IvV.cs xs)),(7,.v (.int .i64 xs.length)),(8,.v (.int .i64 i))])
  (fun _=>[]) (fun i=>i≤xs.length∧∀j,j<i→p (xs.getD j iv0)=false) (fun i=>xs.length-i) 0 ⟨by omega,fun j hj=>by omega⟩ (Le.lst [] _ _ rfl (by simp(disch:=omega)only[go_sem,hr,hn]) (by simp(disch:=omega)only[go_sem])) ?_
 rintro i ⟨hi,hp⟩
 simp(disch:=omega)only[go_sem]
 refine qe (fun h1=>?_) (fun h1=>?_)
 ·have hcut:=ZT (l:=xs) aal (i:=i) (by omega) iv0
  simp(disch:=omega)only[go_sem,h1,hcut,hg]
  refine⟨by omega,by omega,qz (hf (xs.getD i iv0) (by rw[List.getD_eq_getElem?_getD,List.getElem?_eq_getElem (by omega)];exact List.getElem_mem _)) (by simp(disch:=omega)only[go_sem,hc,hc5]) ?_⟩
  rintro r hs ⟨rfl,rfl,_⟩
  refine⟨by simp[qO],?_⟩
  simp(disch:=omega)only[go_sem]
  refine yU (fun h2=>?_) (fun h2=>?_)
  ·simp(disch:=omega)only[go_sem,h2]
   refine qx (by simp(disch:=omega)only[go_sem]) (by simp(disch:=omega)only[go_sem]) ⟨i,rfl,rfl,?_⟩
   refine⟨fun _=>⟨_,?_,h2⟩,fun _=>by omega⟩
   rw[List.getD_eq_getElem?_getD,List.getElem?_eq_getElem (by omega)];exact List.getElem_mem _
  ·simp(disch:=omega)only[go_sem,h2]
   refine qb (i+1) [] ⟨by omega,fun j hj=>?_⟩ (by show xs.length-(i+1)<xs.length-i;omega) rfl (by simp(disch:=omega)only[go_sem,hr,hn];try omega) (by simp(disch:=omega)only[go_sem])
   rcases(by omega:j<i∨j=i)with h|h
   ·exact hp j h
   ·subst h;exact h2
 ·simp(disch:=omega)only[go_sem,h1]
  refine qx (by simp(disch:=omega)only[go_sem]) (by simp(disch:=omega)only[go_sem]) ⟨-1,rfl,rfl,?_⟩
  refine⟨fun h=>by omega,fun⟨x,hx,hpx⟩=>?_⟩
  obtain⟨j,hj,rfl⟩:=List.getElem_of_mem hx
  have:=hp j (by omega)
  rw[List.getD_eq_getElem?_getD,List.getElem?_eq_getElem hj]at this
  simp only[Option.getD_some]at this
  rw[this]at hpx;cases hpx
theorem JF(f:Nat)(caps:List AV)(xs:List IvV)(hl:xs.length≤2^40)(hf:∀x∈xs,Con Tryz.prog f true (.ag x.cs::caps) [] (isA (.v (.bool (p x)))))(hg:qq Tryz.prog f=True)
  (hc:∀h:Nat→Ob,caps.map (qE h 6)=caps) (hc5:∀h:Nat→Ob,caps.map (qE h 5)=caps) (hn:∀ks,AllL (yj ks) caps) (hr:∀ρ,zK ρ caps=caps):
  Con Tryz.prog 240 true [.sl xs.length (qm IvV.cs xs),.fn f caps] [] (isA (.v (.bool (xs.any p)))):=by
 refine Con.of_aw Tryz.func240 rfl Tryz.ntmps240 (by simp) (by simp) (by simp) (W.sound ?_)
 show @W Tryz.prog 9 ⟨_⟩ ⟨fun x σ=>@qR _ _ _ ⟨_⟩ _ ⟨_⟩ x σ⟩ _ _
 simp(disch:=omega)only[go_sem]
 refine qz (aep p f caps xs hl hf hg hc hc5 hn hr) (by simp(disch:=omega)only[go_sem,hc,hc5]) ?_
 rintro r hs ⟨i,rfl,rfl,hi⟩
 refine⟨by simp[qO],?_⟩
 simp(disch:=omega)only[go_sem]
 refine qx (by simp(disch:=omega)only[go_sem]) (by simp(disch:=omega)only[go_sem]) ⟨?_,rfl,rfl⟩
 have:decide (0≤i)=xs.any p:=by rw[Bool.eq_iff_iff,decide_eq_true_eq,hi,List.any_eq_true]
 rw[this];rfl
theorem ari(xs:List IvV)(hl:xs.length≤2^40)(hf:∀x∈xs,Con Tryz.prog g true [.ag x.cs] [] (isA (.v (.bool (p x)))))(hg:qq Tryz.prog g=True):
  Con Tryz.prog 183 true [.sl xs.length (qm IvV.cs xs),.fn g []] [] (isA (.v (.bool (xs.all p)))):=by
 refine Con.of_aw Tryz.func183 rfl Tryz.ntmps183 (by simp) (by simp) (by simp) (W.sound ?_)
 show @W Tryz.prog 9 ⟨_⟩ ⟨fun x σ=>@qR _ _ _ ⟨_⟩ _ ⟨_⟩ x σ⟩ _ _
 simp(disch:=omega)only[go_sem]
 refine qz (JF (fun x=> !p x) 241 [.fp [.fn g []] 0] xs hl (fun x hx=>akh g p x (hf x hx) hg) (by simp(disch:=omega)only[go_sem]) (fun h=>rfl) (fun h=>rfl) (fun ks=>by simp(disch:=omega)only[go_sem]) (fun ρ=>rfl)) (by simp(disch:=omega)only[go_sem]) ?_
 rintro r hs ⟨rfl,rfl,_⟩
 refine⟨by simp[qO],?_⟩
 simp(disch:=omega)only[go_sem]
 refine qx (by simp(disch:=omega)only[go_sem]) (by simp(disch:=omega)only[go_sem]) ⟨?_,rfl,rfl⟩
 have:(!xs.any fun x=> !p x)=xs.all p:=by rw[List.all_eq_not_any_not]
 rw[this];rfl
end
end Go.Ab
namespace Go.Ab
open Go Go.Proofs
/-! ### Intervals that were drawn,and those that are valid-/
def DyV.ex(d:DyV):ExV:=⟨d.s,(vl d.xs).toNat,d.e⟩
def ExV.dyv(x:ExV):DyV:=⟨x.s,lim x.m,x.e⟩
theorem ad5(x:ExV):x.dyv.ex=x:=by unfold ExV.dyv DyV.ex;rw[q8,Int.toNat_natCast]
theorem aar{d:DyV}(h:d.ok=true):d=d.ex.dyv∧d.ex.ok=true:=by
 obtain⟨s,xs,e⟩:=d
 obtain⟨m,hm, -⟩:=QW (show dyB s xs e=true from h)
 subst hm
 have e1:(DyV.mk s (lim m) e).ex=⟨s,m,e⟩:=ad5 ⟨s,m,e⟩
 rw[e1]
 exact⟨rfl,h⟩
def ivB(v:IvV):Bool:=v.lo.ok&&(v.hi.ok&&decide (v.lo.ex.val 3000≤v.hi.ex.val 3000))
def IvV.sp(v:IvV):SpV:=⟨v.lo.ex,v.hi.ex⟩
def SpV.iv(s:SpV):IvV:=⟨s.lo.dyv,s.hi.dyv⟩
def SpV.ok(s:SpV):Bool:=s.lo.ok&&(s.hi.ok&&decide (s.lo.val 3000≤s.hi.val 3000))
theorem aFv(s:SpV):ivB s.iv=s.ok:=by
 unfold ivB SpV.ok SpV.iv
 rw[ad5,ad5];rfl
theorem aPy{v:IvV}(h:ivB v=true):∃s:SpV,v=s.iv∧s.ok=true:=by
 have h':=h
 simp only[ivB,Bool.and_eq_true]at h'
 obtain⟨lo,hi⟩:=v
 have e:(⟨lo,hi⟩:IvV)=(IvV.sp ⟨lo,hi⟩).iv:=by
  show _=IvV.mk lo.ex.dyv hi.ex.dyv
  rw[←(aar h'.1).1,←(aar h'.2.1).1]
 exact⟨_,e,by rw[←aFv,←e];exact h⟩
theorem aoS{s:SpV}(h:s.ok=true):s.lo.ok=true∧s.hi.ok=true∧s.lo.val 3000≤s.hi.val 3000:=by
 simpa [SpV.ok]using h
theorem aJC{s:SpV}(h:s.ok=true):s.bd (-3000) 4600:=⟨Qr (aoS h).1,Qr (aoS h).2.1⟩
theorem Jr{K:Nat}{x y:ExV}(h1: -(K:Int)≤x.e)(h2: -(K:Int)≤y.e):x.cmp y=zr (x.val K) (y.val K):=by
 unfold ExV.cmp
 exact afs h1 h2
theorem arp{x y:ExV}(hx:x.ok=true)(hy:y.ok=true):x.cmp y=zr (x.val 3000) (y.val 3000):=Jr (zW hx).1.1 (zW hy).1.1
theorem aew(a b:DyV)(ha:a.xs.length≤1000)(hb:b.xs.length≤1000):Con Tryz.prog 81 true [.sl 2 [.v (.bool a.s),.sl a.xs.length (qc a.xs),.v (.int .i64 a.e),.v (.bool b.s),.sl b.xs.length (qc b.xs),.v (.int .i64 b.e)]] [] (isA (.v (.bool (a.ok&&b.ok)))):=by
 have c:=Yi [a,b] (by simp) (by intro x hx;simp at hx;rcases hx with rfl|rfl<;>omega)
 rw[show [a,b].all DyV.ok=(a.ok&&b.ok) by simp]at c
 exact c
theorem aDG(v:IvV)(h1:v.lo.xs.length≤1000)(h2:v.hi.xs.length≤1000):Con Tryz.prog 109 true [.ag [.v (.bool (v).lo.s),.sl (v).lo.xs.length (qc (v).lo.xs),.v (.int .i64 (v).lo.e),.v (.bool (v).hi.s),.sl (v).hi.xs.length (qc (v).hi.xs),.v (.int .i64 (v).hi.e)]] [] (isA (.v (.bool (ivB v)))):=by
 unfold ivB
 have ca:=aew v.lo v.hi h1 h2
 cases k1:v.lo.ok
 ·rw[k1]at ca
  refine Con.of_aw Tryz.func109 rfl Tryz.ntmps109 (by simp) (by simp) (by simp) (W.sound ?_)
  show @W Tryz.prog 19 ⟨_⟩ ⟨fun x σ=>@qR _ _ _ ⟨_⟩ _ ⟨_⟩ x σ⟩ _ _
  simp(disch:=omega)only[go_sem]
  refine qp rfl [⟨0,[],[]⟩,⟨1,[],[]⟩,⟨2,[1],[]⟩,⟨3,[1],[]⟩,⟨4,[],[]⟩,⟨5,[],[]⟩,⟨6,[],[]⟩,⟨7,[],[]⟩,⟨8,[],[]⟩,⟨10,[8],[]⟩,⟨11,[8],[]⟩,⟨9,[11],[]⟩,⟨12,[],[]⟩,⟨13,[],[]⟩,⟨14,[],[]⟩,⟨15,[],[]⟩,⟨16,[],[]⟩] (by kernel_rfl) ?_
  simp(disch:=omega)only[go_sem]
  refine qh (ca) ?_
  simp(disch:=omega)only[go_sem]
  exact qu
 cases k2:v.hi.ok
 ·rw[k1,k2]at ca
  refine Con.of_aw Tryz.func109 rfl Tryz.ntmps109 (by simp) (by simp) (by simp) (W.sound ?_)
  show @W Tryz.prog 19 ⟨_⟩ ⟨fun x σ=>@qR _ _ _ ⟨_⟩ _ ⟨_⟩ x σ⟩ _ _
  simp(disch:=omega)only[go_sem]
  refine qp rfl [⟨0,[],[]⟩,⟨1,[],[]⟩,⟨2,[1],[]⟩,⟨3,[1],[]⟩,⟨4,[],[]⟩,⟨5,[],[]⟩,⟨6,[],[]⟩,⟨7,[],[]⟩,⟨8,[],[]⟩,⟨10,[8],[]⟩,⟨11,[8],[]⟩,⟨9,[11],[]⟩,⟨12,[],[]⟩,⟨13,[],[]⟩,⟨14,[],[]⟩,⟨15,[],[]⟩,⟨16,[],[]⟩] (by kernel_rfl) ?_
  simp(disch:=omega)only[go_sem]
  refine qh (ca) ?_
  simp(disch:=omega)only[go_sem]
  exact qu
 ·rw[k1,k2]at ca
  obtain⟨lo,hi⟩:=v
  dsimp only at k1 k2 ca ⊢
  obtain⟨e1,o1⟩:=aar k1
  obtain⟨e2,o2⟩:=aar k2
  generalize lo.ex=x at*
  generalize hi.ex=y at*
  subst e1 e2
  unfold ExV.dyv at*
  refine Con.of_aw Tryz.func109 rfl Tryz.ntmps109 (by simp) (by simp) (by simp) (W.sound ?_)
  show @W Tryz.prog 19 ⟨_⟩ ⟨fun x σ=>@qR _ _ _ ⟨_⟩ _ ⟨_⟩ x σ⟩ _ _
  simp(disch:=omega)only[go_sem]
  refine qp rfl [⟨0,[],[]⟩,⟨1,[],[]⟩,⟨2,[1],[]⟩,⟨3,[1],[]⟩,⟨4,[],[]⟩,⟨5,[],[]⟩,⟨6,[],[]⟩,⟨7,[],[]⟩,⟨8,[],[]⟩,⟨10,[8],[]⟩,⟨11,[8],[]⟩,⟨9,[11],[]⟩,⟨12,[],[]⟩,⟨13,[],[]⟩,⟨14,[],[]⟩,⟨15,[],[]⟩,⟨16,[],[]⟩] (by kernel_rfl) ?_
  simp(disch:=omega)only[go_sem]
  refine qh (ca) ?_
  simp(disch:=omega)only[go_sem]
  refine qa (z8 x.s x.m x.e) ?_
  simp(disch:=omega)only[go_sem]
  refine qa (z8 y.s y.m y.e) ?_
  simp(disch:=omega)only[go_sem]
  refine qh (yg x y ((Qr o1).mono (by omega) (by omega)) ((Qr o2).mono (by omega) (by omega))) ?_
  simp(disch:=omega)only[go_sem]
  refine qx (by simp(disch:=omega)only[go_sem]) (by simp(disch:=omega)only[go_sem]) ⟨?_,rfl,rfl⟩
  rw[arp o1 o2]
  show AV.v (.bool _)=AV.v (.bool (true&&(true&&decide (ExV.val 3000 x≤ExV.val 3000 y))))
  rw[Bool.true_and,Bool.true_and]
  congr 2
  exact decide_eq_decide.2 (Qh _ _).1
theorem akg(l:List IvV)(hl:l.length≤1000)(hx:∀v∈l,v.lo.xs.length≤1000∧v.hi.xs.length≤1000):Con Tryz.prog 103 true [.sl l.length (qm IvV.cs l)] [] (isA (.v (.bool (l.all ivB)))):=by
 refine Con.of_w (rs:=[.tmp 2]) Tryz.func103 rfl Tryz.ntmps103 rfl ?_
 simp(disch:=omega)only[go_sem]
 refine qh (ari 109 ivB l (by omega) (fun v h=>aDG v (hx v h).1 (hx v h).2) (by simp(disch:=omega)only[go_sem])) ?_
 simp(disch:=omega)only[go_sem]
 exact qu
def aa1(v:IvV):Prop:=v.lo.xs.length≤1000∧v.hi.xs.length≤1000
theorem apK{s:SpV}(h:s.ok=true):aa1 s.iv:=by
 have h1:=zW (aoS h).1
 have h2:=zW (aoS h).2.1
 exact⟨by show(lim s.lo.m).length≤1000;omega,by show(lim s.hi.m).length≤1000;omega⟩
theorem Yf(s:SpV):Con Tryz.prog 105 false [.ag [.v (.bool (s).lo.s),.sl (lim (s).lo.m).length (qc (lim (s).lo.m)),.v (.int .i64 (s).lo.e),.v (.bool (s).hi.s),.sl (lim (s).hi.m).length (qc (lim (s).hi.m)),.v (.int .i64 (s).hi.e)]] [] (isA (.ag [.v (.bool (s).lo.s),.sl (lim (s).lo.m).length (qc (lim (s).lo.m)),.v (.int .i64 (s).lo.e),.v (.bool (s).hi.s),.sl (lim (s).hi.m).length (qc (lim (s).hi.m)),.v (.int .i64 (s).hi.e)])):=by
 refine Con.frzA ?_
 refine Con.of_w (rs:=[.cell 2 133]) Tryz.func105 rfl Tryz.ntmps105 rfl ?_
 simp(disch:=omega)only[go_sem]
 refine qp rfl [⟨0,[],[]⟩,⟨1,[],[]⟩,⟨3,[1],[]⟩,⟨4,[1],[]⟩,⟨2,[4],[]⟩,⟨5,[],[]⟩,⟨6,[],[]⟩,⟨7,[],[]⟩] (by kernel_rfl) ?_
 simp(disch:=omega)only[go_sem]
 refine qa (z8 s.lo.s s.lo.m s.lo.e) ?_
 simp(disch:=omega)only[go_sem]
 refine qa (z8 s.hi.s s.hi.m s.hi.e) ?_
 simp(disch:=omega)only[go_sem]
 exact ql
theorem aqJ(s:SpV)(x:ExV)(hs:s.ok=true)(hx:x.ok=true):Con Tryz.prog 106 true [.ag [.v (.bool (s).lo.s),.sl (lim (s).lo.m).length (qc (lim (s).lo.m)),.v (.int .i64 (s).lo.e),.v (.bool (s).hi.s),.sl (lim (s).hi.m).length (qc (lim (s).hi.m)),.v (.int .i64 (s).hi.e)],.ag [.v (.bool (x).s),.sl (lim (x).m).length (qc (lim (x).m)),.v (.int .i64 (x).e)]] [] (isA (.v (.bool (decide (s.lo.val 3000≤x.val 3000)&&decide (x.val 3000≤s.hi.val 3000))))):=by
 obtain⟨o1,o2, -⟩:=aoS hs
 have c1:=yg s.lo x ((Qr o1).mono (by omega) (by omega)) ((Qr hx).mono (by omega) (by omega))
 have c2:=yg x s.hi ((Qr hx).mono (by omega) (by omega)) ((Qr o2).mono (by omega) (by omega))
 rw[arp o1 hx]at c1
 rw[arp hx o2]at c2
 have e1:decide (zr (s.lo.val 3000) (x.val 3000)≤0)=decide (s.lo.val 3000≤x.val 3000):=decide_eq_decide.2 (Qh _ _).1
 have e2:decide (zr (x.val 3000) (s.hi.val 3000)≤0)=decide (x.val 3000≤s.hi.val 3000):=decide_eq_decide.2 (Qh _ _).1
 refine Con.of_aw Tryz.func106 rfl Tryz.ntmps106 (by simp) (by simp) (by simp) (W.sound ?_)
 show @W Tryz.prog 17 ⟨_⟩ ⟨fun x σ=>@qR _ _ _ ⟨_⟩ _ ⟨_⟩ x σ⟩ _ _
 simp(disch:=omega)only[go_sem]
 refine qh (c1) ?_
 simp(disch:=omega)only[go_sem]
 cases h1:decide (s.lo.val 3000≤x.val 3000)
 ·simp(disch:=omega)only[go_sem,e1,h1]
  exact qu
 ·simp(disch:=omega)only[go_sem,e1,h1]
  refine qh (c2) ?_
  simp(disch:=omega)only[go_sem]
  exact qx (by simp(disch:=omega)only[go_sem]) (by simp(disch:=omega)only[go_sem]) ⟨by rw[e2];rfl,rfl,rfl⟩
def aKZ(s t:SpV):SpV:=⟨zp [s.lo,t.lo],jg [s.hi,t.hi]⟩
def beC(s t:SpV):SpV:=⟨jg [s.lo,t.lo],zp [s.hi,t.hi]⟩
theorem aO5{x:ExV}(h:x.ok=true):x.fit=true:=by
 show jP x.m x.e=true
 rw[←QB x.s x.m x.e]
 exact(show x.can.ok=true by rw[aFm h];exact h)
def SpV.tel(s:SpV):SpV:=if s.fit=true then s.can else sp0
def bez(s t:SpV):SpV:=if(aKZ s t).lo.val 3000≤(aKZ s t).hi.val 3000 then aKZ s t else sp0
def aBq(s:SpV)(x:ExV):Bool:=decide (s.lo.val 3000≤x.val 3000)&&decide (x.val 3000≤s.hi.val 3000)
end Go.Ab
namespace Go.Ab
open Go Go.Proofs
/-! ### Matrices that were drawn,and those that are valid-/
structure matV(n:Nat)(L:List ExV):Prop where
 n1:1≤n
 n4:n≤4
 len:L.length=n*n
 ok:∀x∈L,x.ok=true
theorem bb9{k:Int}{M:List DyV}(h:aFq k M=true):∃(n:Nat) (L:List ExV),k=n∧M=L.map ExV.dyv∧matV n L:=by
 simp only[aFq,Bool.and_eq_true,decide_eq_true_eq,List.all_eq_true]at h
 obtain⟨⟨h1,h2⟩,h3,h4⟩:=h
 obtain⟨n,rfl⟩:=Int.eq_ofNat_of_zero_le (show 0≤k by omega)
 have hm:M=(M.map DyV.ex).map ExV.dyv:=by
  rw[List.map_map]
  conv=>lhs;rw[←List.map_id M]
  exact List.map_congr_left fun d hd=>(aar (h4 d hd)).1
 refine⟨n,M.map DyV.ex,rfl,hm,by omega,by omega,?_,fun x hx=>?_⟩
 ·rw[List.length_map];exact_mod_cast h3
 ·obtain⟨d,hd,rfl⟩:=List.mem_map.1 hx
  exact(aar (h4 d hd)).2
theorem matV.bd{n:Nat}{L:List ExV}(h:matV n L):gbd (-3000) 4600 L:=fun x hx=>Qr (h.ok x hx)
theorem matV.bd4{n:Nat}{L:List ExV}(h:matV n L):gbd (-400000) 400000 L:=fun x hx=>(Qr (h.ok x hx)).mono (by omega) (by omega)
theorem matV.bd3{n:Nat}{L:List ExV}(h:matV n L):gbd (-190000) 190000 L:=fun x hx=>(Qr (h.ok x hx)).mono (by omega) (by omega)
theorem matV.l16{n:Nat}{L:List ExV}(h:matV n L):L.length≤16:=by rw[h.len];exact yn h.n4
theorem yS(n:Nat)(L:List ExV)(h:matV n L):Con Tryz.prog 80 true [.ag [.v (.int .i64 (n)),.sl (L).length (qm ExV.cs (L))]] [] (isA (.v (.bool true))):=by
 have c:=Yj n L (by have:=h.l16;omega) (fun x hx=>by have:=(zW (h.ok x hx)).2.2.1;omega)
 rw[show aK2 n L=true by
  unfold aK2
  simp only[Bool.and_eq_true,decide_eq_true_eq,List.all_eq_true]
  exact⟨⟨by have:=h.n1;omega,by have:=h.n4;omega⟩,by rw[h.len,Int.natCast_mul],h.ok⟩]at c
 exact c
def gN(n:Nat)(l:List ExV):Nat:=if l.all ExV.fit=true then n else 0
def gT(l:List ExV):List ExV:=if l.all ExV.fit=true then l.map ExV.can else []
theorem Y7(n:Nat)(l:List ExV)(hl:l.length≤1000)(hb:gbd (-400000) 400000 l):Con Tryz.prog 88 false [.ag [.v (.int .i64 (n)),.sl (l).length (qm ExV.cs (l))]] [] (isA (.tu [.ag [.v (.int .i64 (gN n l)),.sl (gT l).length (qm ExV.cs (gT l))],.v (.bool (l.all ExV.fit))])):=by
 have c:=aqT n l hl hb
 unfold gN gT
 cases h:l.all ExV.fit
 ·rw[h,if_neg (by simp)]at c
  rw[if_neg (by simp),if_neg (by simp)]
  exact c
 ·rw[h,if_pos rfl]at c
  rw[if_pos rfl,if_pos rfl,List.length_map]
  exact c
theorem aPG{n:Nat}{l:List ExV}(h1:1≤n)(h4:n≤4)(hl:l.length=n*n)(h:l.all ExV.fit=true):gN n l=n∧gT l=l.map ExV.can∧matV n (l.map ExV.can):=by
 refine⟨if_pos h,if_pos h,h1,h4,by rw[List.length_map];exact hl,fun x hx=>?_⟩
 obtain⟨y,hy,rfl⟩:=List.mem_map.1 hx
 exact afu (List.all_eq_true.1 h y hy)
theorem Zd(n n':Nat)(L L':List ExV)(h:matV n L)(h':matV n' L'):Con Tryz.prog 90 true [.ag [.v (.int .i64 (n)),.sl (L).length (qm ExV.cs (L))],.ag [.v (.int .i64 (n')),.sl (L').length (qm ExV.cs (L'))]] [] (isA (.v (.bool (decide (n=n'))))):=by
 refine Con.of_aw Tryz.func90 rfl Tryz.ntmps90 (by simp) (by simp) (by simp) (W.sound ?_)
 show @W Tryz.prog 18 ⟨_⟩ ⟨fun x σ=>@qR _ _ _ ⟨_⟩ _ ⟨_⟩ x σ⟩ _ _
 simp(disch:=omega)only[go_sem]
 refine qh (yS n L h) ?_
 simp(disch:=omega)only[go_sem]
 refine qh (yS n' L' h') ?_
 simp(disch:=omega)only[go_sem]
 refine qx (by simp(disch:=omega)only[go_sem]) (by simp(disch:=omega)only[go_sem]) ⟨?_,rfl,rfl⟩
 show AV.v (.bool _)=AV.v (.bool _)
 congr 2
 exact decide_eq_decide.2 ⟨fun h=>by omega,fun h=>by omega⟩
def bfq(k:Int)(M:List DyV)(k':Int)(M':List DyV):Bool:=aFq k M&&(aFq k' M'&&decide (k=k'))
theorem ap8{n:Nat}{L L':List ExV}{lo hi:Int}(hl:L.length=n*n)(hl':L'.length=n*n)(hb:gbd lo hi L)(hb':gbd lo hi L'):gbd lo (hi+1) (jr n L L'):=
 aLs fun i j hi hj=>ExV.plus_bd (q7 hb (by rw[hl];exact zX hi hj)) (q7 hb' (by rw[hl'];exact zX hi hj))
theorem ajF{n:Nat}{L L':List ExV}(h:matV n L)(h':matV n L'):gbd (-6000) 9204 (zv n L L'):=
 aLs fun i j hi hj=>(aqy (l1:= -3000) (h1:=4600) (l2:= -3000) (h2:=4600) hi hj (Nat.le_refl n) h.len h'.len h.bd h'.bd (by omega)).mono (by omega) (by have:=h.n4;omega)
theorem aez(n:Nat)(L L':List ExV)(h:matV n L)(h':matV n L'):Con Tryz.prog 20 false [.ag [.v (.int .i64 (n)),.sl (L).length (qm ExV.cs (L))],.ag [.v (.int .i64 (n)),.sl (L').length (qm ExV.cs (L'))]] [] (isA (.tu [.ag [.v (.int .i64 (gN n (jr n L L'))),.sl (gT (jr n L L')).length (qm ExV.cs (gT (jr n L L')))],.v (.bool ((jr n L L').all ExV.fit))])):=by
 refine Con.frzA ?_
 have ca:=Zd n n L L' h h'
 rw[decide_eq_true rfl]at ca
 have co:=arb n L L' h.n4 h.len h'.len h.bd4 h'.bd4
 have hl:(jr n L L').length=n*n:=yA
 have cm:=Y7 n (jr n L L') (by have:=yn h.n4;omega) (yQ (ap8 h.len h'.len h.bd h'.bd) (by omega) (by omega))
 generalize jr n L L'=y at*
 refine Con.of_w (rs:=[.cell 4 25,.tmp 5]) Tryz.func20 rfl Tryz.ntmps20 rfl ?_
 simp(disch:=omega)only[go_sem]
 refine qh (ca) ?_
 simp(disch:=omega)only[go_sem]
 refine qp rfl [⟨0,[],[]⟩,⟨2,[0],[]⟩,⟨1,[2],[]⟩,⟨3,[],[]⟩,⟨4,[],[]⟩,⟨5,[],[]⟩,⟨6,[],[]⟩,⟨7,[],[]⟩,⟨8,[],[]⟩,⟨9,[],[]⟩] (by kernel_rfl) ?_
 simp(disch:=omega)only[go_sem]
 refine qa (zN n L (by have:=h.l16;omega)) ?_
 simp(disch:=omega)only[go_sem]
 refine qa (zN n L' (by have:=h'.l16;omega)) ?_
 simp(disch:=omega)only[go_sem]
 refine qa (co) ?_
 simp(disch:=omega)only[go_sem]
 refine qa (cm) ?_
 simp(disch:=omega)only[go_sem]
 exact ql
theorem aey(n:Nat)(L L':List ExV)(h:matV n L)(h':matV n L'):Con Tryz.prog 17 false [.ag [.v (.int .i64 (n)),.sl (L).length (qm ExV.cs (L))],.ag [.v (.int .i64 (n)),.sl (L').length (qm ExV.cs (L'))]] [] (isA (.tu [.ag [.v (.int .i64 (gN n (zv n L L'))),.sl (gT (zv n L L')).length (qm ExV.cs (gT (zv n L L')))],.v (.bool ((zv n L L').all ExV.fit))])):=by
 refine Con.frzA ?_
 have ca:=Zd n n L L' h h'
 rw[decide_eq_true rfl]at ca
 have co:=akb n L L' h.n4 h.len h'.len h.bd3 h'.bd3
 have hl:(zv n L L').length=n*n:=yA
 have cm:=Y7 n (zv n L L') (by have:=yn h.n4;omega) (yQ (ajF h h') (by omega) (by omega))
 generalize zv n L L'=y at*
 refine Con.of_w (rs:=[.cell 4 25,.tmp 5]) Tryz.func17 rfl Tryz.ntmps17 rfl ?_
 simp(disch:=omega)only[go_sem]
 refine qh (ca) ?_
 simp(disch:=omega)only[go_sem]
 refine qp rfl [⟨0,[],[]⟩,⟨2,[0],[]⟩,⟨1,[2],[]⟩,⟨3,[],[]⟩,⟨4,[],[]⟩,⟨5,[],[]⟩,⟨6,[],[]⟩,⟨7,[],[]⟩,⟨8,[],[]⟩,⟨9,[],[]⟩] (by kernel_rfl) ?_
 simp(disch:=omega)only[go_sem]
 refine qa (zN n L (by have:=h.l16;omega)) ?_
 simp(disch:=omega)only[go_sem]
 refine qa (zN n L' (by have:=h'.l16;omega)) ?_
 simp(disch:=omega)only[go_sem]
 refine qa (co) ?_
 simp(disch:=omega)only[go_sem]
 refine qa (cm) ?_
 simp(disch:=omega)only[go_sem]
 exact ql
end Go.Ab
namespace Go.Ab
/-! ### Sums and greatest ones of whole numbers-/
def qD(f:Nat→Int):Nat→Int
 |0=>0
 |k+1=>qD f k+f k
def aK0(f:Nat→Int):Nat→Int
 |0=>0
 |k+1=>if aK0 f k<f k then f k else aK0 f k
theorem qK{f g:Nat→Int}:∀{k:Nat},(∀i,i<k→f i=g i)→qD f k=qD g k
 |0,_=>rfl
 |k+1,h=>by rw[qD,qD,qK fun i hi=>h i (by omega),h k (by omega)]
theorem ZK(f g:Nat→Int):∀k:Nat,qD (fun i=>f i+g i) k=qD f k+qD g k
 |0=>rfl
 |k+1=>by rw[qD,qD,qD,ZK f g k];omega
theorem JL(f:Nat→Int)(c:Int):∀k:Nat,qD (fun i=>f i*c) k=qD f k*c
 |0=>by simp[qD]
 |k+1=>by rw[qD,qD,JL f c k,Int.add_mul]
theorem yJ(f:Nat→Int)(c:Int):∀k:Nat,qD (fun i=>c*f i) k=c*qD f k
 |0=>by simp[qD]
 |k+1=>by rw[qD,qD,yJ f c k,Int.mul_add]
theorem QO:∀k:Nat,qD (fun _=>0) k=0
 |0=>rfl
 |k+1=>by rw[qD,QO k];rfl
theorem JM(g:Nat→Nat→Int)(m:Nat):∀k:Nat,qD (fun i=>qD (fun t=>g i t) m) k=qD (fun t=>qD (fun i=>g i t) k) m
 |0=>(QO m).symm
 |k+1=>by
  rw[qD,JM g m k,←ZK]
  exact qK fun t _=>rfl
theorem jy{f:Nat→Int}{j:Nat}:∀{k:Nat},j<k→(∀i,i<k→i≠j→f i=0)→qD f k=f j
 |0,h,_=>by omega
 |k+1,h,h2=>by
  rw[qD]
  by_cases hj:j=k
  ·subst hj
   have:qD f j=qD (fun _=>0) j:=qK fun i hi=>h2 i (by omega) (by omega)
   rw[this,QO];omega
  ·rw[jy (by omega) (fun i hi=>h2 i (by omega)),h2 k (by omega) (by omega)];omega
def nrm(A:Nat→Nat→Int)(n:Nat):Int:=aK0 (fun j=>qD (fun i=>((A i j).natAbs:Int)) n) n
end Go.Ab
namespace Go.Ab
open Go Go.Proofs
/-! ### What matrices tell-/
def mv(K:Nat)(L:List ExV)(n i j:Nat):Int:=(L.getD (i*n+j) ex0).val K
def eK(K:Nat)(L:List ExV):Prop:=∀x∈L, -(K:Int)≤x.e
theorem matV.eK{n:Nat}{L:List ExV}(h:matV n L){K:Nat}(hK:3000≤K):eK K L:=fun x hx=>by have:=(zW (h.ok x hx)).1;omega
end Go.Ab
namespace Go.Ab
open Go Go.Proofs
def bfm(l:List UInt8)(i h:Int):Ob:=.own 0 [.sl l.length (qk l),.v (.int .i64 i),.v (.int .i64 h)]
def J3(l:List UInt8)(Q:AV→Prop):AV→List Ob→List Ob→Prop:=fun r hs bs=>hs=[]∧Q r∧∃i h:Int,(0≤i∧i≤l.length)∧bs=[.own 0 [.sl l.length (qk l),.v (.int .i64 i),.v (.int .i64 h)]]
section
variable {P:Program}{N f c:Nat}{aa0 args:List AV}{hp:Nat→Ob}{K:KV}{Q:AV→Prop}{e:Nat→AV}{l:List UInt8}{i h:Int}
theorem qr{n:Nat}(hc:Con P f false (.pt 10000000 0::args) [.own 0 [.sl l.length (qk l),.v (.int .i64 i),.v (.int .i64 h)]] (J3 l Q))
  (hk:∀(r:AV) (i' h':Int),(0≤i'∧i'≤l.length)→Q r→K (r.ren (rho c [n])) (upd hp n (.own 0 [.sl l.length (qk l),.v (.int .i64 i'),.v (.int .i64 h')])))
  (ha:aa0.map (snp (hpx false [n] hp) (idx [n]) 6)=args:=by simp(disch:=omega)only[go_sem]) (hn:hp n=.own 0 [.sl l.length (qk l),.v (.int .i64 i),.v (.int .i64 h)]:=by simp(disch:=omega)only[go_sem]):@JH P f (.pt n 0::aa0) hp c ⟨K⟩:=by
 refine yG false [n] hc (by rw[List.map_cons,ha];simp[snp,idx]) (by rw[Z3,hn];rfl) rfl (qQ hn (by simp[AllL,AV.All])) (by intro m hm;rw[List.mem_singleton.1 hm];exact⟨_,List.mem_cons_self ..,rfl⟩) ?_
 rintro r hs bs ⟨rfl,hq,i',h',hi',rfl⟩-
 exact⟨⟨by simp,trivial,fun h=>by cases h⟩,hk r i' h' hi' hq⟩
theorem aFs{ks:List Nat}:∀{l:List AV},AllL (yj []) l→leL [] ks l l
 | [],_=>trivial
 |a::r,h=>⟨⟨apc a,h.1.mono fun _ h=>h.elim⟩,aFs h.2⟩
theorem qM{vs:List AV}(i h:Int)(hq:Q (zg vs))(hi:0≤i∧i≤l.length:=by omega)(hh:hp 10000000=.own 0 [.sl l.length (qk l),.v (.int .i64 i),.v (.int .i64 h)]:=by simp(disch:=omega)only[go_sem])
  (hl:AllL (yj []) vs:=by simp(disch:=omega)only[go_sem]):@aFB N false 1 ⟨J3 l Q⟩ ⟨e⟩ vs hp:=
 qg [] [] [.own 0 [.sl l.length (qk l),.v (.int .i64 i),.v (.int .i64 h)]] vs rfl (aFs hl) ⟨⟨hh.symm,by simp[Ob.men,AllL,AV.All],trivial⟩,trivial⟩ ⟨rfl,by simp,by simp⟩ (fun h=>by cases h) ⟨rfl,hq,i,h,hi,rfl⟩
end
def bcf(l:List UInt8)(xs:List Int)(Q:AV→Prop):AV→List Ob→List Ob→Prop:=fun r hs bs=>hs=[]∧Q r∧∃i h:Int,(0≤i∧i≤l.length)∧bs=[.own 0 [.sl l.length (qk l),.v (.int .i64 i),.v (.int .i64 h)],.own 1 (qc xs)]
section
variable {P:Program}{N f c:Nat}{aa0 args:List AV}{hp:Nat→Ob}{K:KV}{Q:AV→Prop}{e:Nat→AV}{l:List UInt8}{i h:Int}
theorem j0{n m k:Nat}{xs:List Int}(hc:Con P f false [.pt 10000000 0,.rf 10000001 0 xs.length] [.own 0 [.sl l.length (qk l),.v (.int .i64 i),.v (.int .i64 h)],.own 1 (qc xs)] (bcf l xs Q))
  (hk:∀(r:AV) (i' h':Int),(0≤i'∧i'≤l.length)→Q r→K (r.ren (rho c [n,m])) (upd (upd hp n (.own 0 [.sl l.length (qk l),.v (.int .i64 i'),.v (.int .i64 h')])) m (.own 1 (qc xs))))
  (hx:xs.length=k:=by rfl)
  (hn:hp n=.own 0 [.sl l.length (qk l),.v (.int .i64 i),.v (.int .i64 h)]:=by simp(disch:=omega)only[go_sem]) (hm:hp m=.own 1 (qc xs):=by simp(disch:=omega)only[go_sem];rfl)
  (hd:Za [n,m]=true:=by rfl):@JH P f [.pt n 0,.rf m 0 k] hp c ⟨K⟩:=by
 have hnm:¬m=n:=by
  have:=(jU hd)
  simp only[List.nodup_cons,List.mem_singleton]at this
  exact fun h=>this.1 h.symm
 subst hx
 refine yG false [n,m] hc (by simp[snp,idx,hnm]) (by rw[Z3,Z3,hn,hm];simp only[Ob.ren,ZV,Z3];rfl) hd (aCm hn (by simp[AllL,AV.All]) hm ZA) (by intro q hq;simp only[List.mem_cons,List.not_mem_nil,or_false]at hq;rcases hq with rfl|rfl<;>simp[AV.top]) ?_
 rintro r hs bs ⟨rfl,hq,i',h',hi',rfl⟩-
 refine⟨⟨by simp,trivial,fun h=>by cases h⟩,?_⟩
 have:=hk r i' h' hi' hq
 simp only[List.map_cons,List.map_nil,Ob.ren,ZV]
 exact this
end
section
variable (l:List UInt8)(hl:l.length≤9223372036854775807)(i h:Int)(hi:0≤i∧i≤l.length)
include hl hi
theorem jZ:Con Tryz.prog 163 false [.pt 10000000 0] [.own 0 [.sl l.length (qk l),.v (.int .i64 i),.v (.int .i64 h)]] (J3 l fun r=>∃k:Int,(0≤k∧k≤255)∧r=.v (.int .i64 k)):=by
 refine Con.of_aw Tryz.func163 rfl Tryz.ntmps163 (by simp) (by simp) (by simp) (W.sound ?_)
 show @W Tryz.prog 58 ⟨_⟩ ⟨fun x σ=>@qR _ _ _ ⟨_⟩ _ ⟨_⟩ x σ⟩ _ _
 simp(disch:=omega)only[go_sem]
 generalize IntKind.i64.wrap (IntKind.i64.wrap (h*6364136223846793005)+1442695040888963407)=h1
 refine qp rfl [⟨0,[],[]⟩,⟨1,[],[]⟩,⟨2,[],[]⟩,⟨3,[],[]⟩,⟨4,[],[]⟩,⟨5,[3],[]⟩,⟨6,[3],[]⟩,⟨7,[3],[]⟩,⟨8,[3],[]⟩,⟨9,[3],[]⟩,⟨10,[],[]⟩,⟨11,[],[]⟩,⟨12,[],[]⟩] (by kernel_rfl) ?_
 simp(disch:=omega)only[go_sem]
 generalize bb1 (h1.fdiv (2^min 33 64)) (h1.fdiv (2^min 45 64))=y
 have hy:0≤y % 256∧y % 256<256:=by omega
 generalize y % 256=x at*
 refine qp rfl [⟨0,[],[]⟩,⟨1,[],[]⟩,⟨2,[],[]⟩,⟨3,[],[]⟩,⟨4,[3],[]⟩,⟨5,[3],[]⟩,⟨6,[3],[]⟩,⟨7,[3],[]⟩,⟨8,[3],[]⟩,⟨9,[],[]⟩] (by kernel_rfl) ?_
 simp(disch:=omega)only[go_sem]
 refine qe (fun c1=>?_) (fun c1=>?_)
 ·simp(disch:=omega)only[go_sem,c1]
  refine qp rfl [⟨0,[],[]⟩,⟨1,[],[]⟩,⟨2,[],[]⟩,⟨3,[],[]⟩,⟨4,[],[]⟩,⟨5,[4],[]⟩,⟨6,[4],[]⟩,⟨7,[4],[]⟩,⟨8,[4],[]⟩,⟨9,[],[]⟩,⟨10,[],[]⟩,⟨11,[],[]⟩,⟨12,[],[]⟩,⟨13,[],[]⟩,⟨14,[],[]⟩] (by kernel_rfl) ?_
  simp(disch:=omega)only[go_sem]
  refine⟨by omega,by omega,?_⟩
  generalize IntKind.i64.wrap (x+IntKind.i64.wrap ((l.getD i.toNat 0).toNat:Int))=y2
  have hy2:0≤y2 % 256∧y2 % 256<256:=by omega
  refine qM (i+1) (h1) ⟨_,by omega,rfl⟩
 ·simp(disch:=omega)only[go_sem,c1]
  refine qM (i) (h1) ⟨_,by omega,rfl⟩
theorem qH(n:Int)(hn:n≤2^62):Con Tryz.prog 79 false [.pt 10000000 0,.v (.int .i64 n)] [.own 0 [.sl l.length (qk l),.v (.int .i64 i),.v (.int .i64 h)]] (J3 l fun r=>∃k:Int,(0≤k∧(0<n→k<n))∧r=.v (.int .i64 k)):=by
 refine Con.of_aw Tryz.func79 rfl Tryz.ntmps79 (by simp) (by simp) (by simp) (W.sound ?_)
 show @W Tryz.prog 37 ⟨_⟩ ⟨fun x σ=>@qR _ _ _ ⟨_⟩ _ ⟨_⟩ x σ⟩ _ _
 simp(disch:=omega)only[go_sem]
 refine qe (fun c1=>?_) (fun c1=>?_)
 ·simp(disch:=omega)only[go_sem,c1]
  refine qM (i) (h) ⟨_,⟨by omega,fun h=>by omega⟩,rfl⟩
 ·simp(disch:=omega)only[go_sem,c1]
  refine qe (fun c2=>?_) (fun c2=>?_)
  ·simp(disch:=omega)only[go_sem,c2]
   refine qr (jZ l hl i h hi) ?_
   rintro r i1 h1 hi1 ⟨k1,hk1,rfl⟩
   simp(disch:=omega)only[go_sem]
   refine⟨by omega,?_⟩
   have hm:=Int.emod_nonneg k1 (show n≠0 by omega)
   have hm2:=Int.emod_lt_of_pos k1 (show 0<n by omega)
   refine qM (i1) (h1) ⟨_,⟨hm,fun _=>hm2⟩,rfl⟩
  ·simp(disch:=omega)only[go_sem,c2]
   refine qr (jZ l hl i h hi) ?_
   rintro r i1 h1 hi1 ⟨k1,hk1,rfl⟩
   simp(disch:=omega)only[go_sem]
   refine qr (jZ l hl i1 h1 hi1) ?_
   rintro r i2 h2 hi2 ⟨k2,hk2,rfl⟩
   simp(disch:=omega)only[go_sem]
   refine qr (jZ l hl i2 h2 hi2) ?_
   rintro r i3 h3 hi3 ⟨k3,hk3,rfl⟩
   simp(disch:=omega)only[go_sem]
   refine qr (jZ l hl i3 h3 hi3) ?_
   rintro r i4 h4 hi4 ⟨k4,hk4,rfl⟩
   simp(disch:=omega)only[go_sem]
   refine⟨by omega,?_⟩
   have hm:=Int.emod_nonneg (k1*16777216+k2*65536+k3*256+k4) (show n≠0 by omega)
   have hm2:=Int.emod_lt_of_pos (k1*16777216+k2*65536+k3*256+k4) (show 0<n by omega)
   refine qM (i4) (h4) ⟨_,⟨hm,fun _=>hm2⟩,rfl⟩
theorem qL(n:Int)(hn:n≤2^62):Con Tryz.prog 111 false [.pt 10000000 0,.v (.int .i64 n)] [.own 0 [.sl l.length (qk l),.v (.int .i64 i),.v (.int .i64 h)]] (J3 l fun r=>∃b:Bool,r=.v (.bool b)):=by
 refine Con.of_aw Tryz.func111 rfl Tryz.ntmps111 (by simp) (by simp) (by simp) (W.sound ?_)
 show @W Tryz.prog 9 ⟨_⟩ ⟨fun x σ=>@qR _ _ _ ⟨_⟩ _ ⟨_⟩ x σ⟩ _ _
 simp(disch:=omega)only[go_sem]
 refine qr (qH l hl i h hi n hn) ?_
 rintro r i1 h1 hi1 ⟨k1,hk1,rfl⟩
 simp(disch:=omega)only[go_sem]
 refine qM (i1) (h1) ⟨_,rfl⟩
theorem zE(xs:List Int)(h0:0<xs.length)(h1:xs.length≤2^40):Con Tryz.prog 145 false [.pt 10000000 0,.rf 10000001 0 xs.length] [.own 0 [.sl l.length (qk l),.v (.int .i64 i),.v (.int .i64 h)],.own 1 (qc xs)] (bcf l xs fun r=>∃x∈xs,r=.v (.int .i64 x)):=by
 refine Con.of_aw Tryz.func145 rfl Tryz.ntmps145 (by simp) (by simp) (by simp) (W.sound ?_)
 show @W Tryz.prog 12 ⟨_⟩ ⟨fun x σ=>@qR _ _ _ ⟨_⟩ _ ⟨_⟩ x σ⟩ _ _
 simp(disch:=omega)only[go_sem]
 refine qr (qH l hl i h hi xs.length (by omega)) ?_
 rintro r i1 h1 hi1 ⟨k1,hk1,rfl⟩
 simp(disch:=omega)only[go_sem]
 obtain⟨n1,rfl⟩:=Int.eq_ofNat_of_zero_le hk1.1
 have hlt:n1<xs.length:=by have:=hk1.2 (by omega);omega
 simp(disch:=omega)only[go_sem]
 refine⟨by omega,by omega,?_⟩
 have hm:xs.getD n1 0∈xs:=by rw[List.getD_eq_getElem?_getD,List.getElem?_eq_getElem hlt];exact List.getElem_mem _
 refine qg [] [] [.own 0 [.sl l.length (qk l),.v (.int .i64 i1),.v (.int .i64 h1)],.own 1 (qc xs)] [.v (.int .i64 (xs.getD n1 0))] rfl (by simp(disch:=omega)only[go_sem]) (by simp(disch:=omega)only[go_sem]) (by simp) (by simp) ⟨rfl,⟨_,hm,rfl⟩,_,_,by omega,rfl⟩
end
end Go.Ab
namespace Go.Ab
open Go Go.Proofs
section
variable (l:List UInt8)(hl:l.length≤9223372036854775807)(i h:Int)(hi:0≤i∧i≤l.length)
include hl hi
theorem Y9:Con Tryz.prog 293 false [.pt 10000000 0] [.own 0 [.sl l.length (qk l),.v (.int .i64 i),.v (.int .i64 h)]] (J3 l fun r=>∃k:Int,(0≤k∧k≤100)∧r=.v (.int .i64 k)):=by
 refine Con.of_aw Tryz.func293 rfl Tryz.ntmps293 (by simp) (by simp) (by simp) (W.sound ?_)
 show @W Tryz.prog 10 ⟨_⟩ ⟨fun x σ=>@qR _ _ _ ⟨_⟩ _ ⟨_⟩ x σ⟩ _ _
 simp(disch:=omega)only[go_sem]
 refine qr (qL l hl i h hi 12 (by omega)) ?_
 rintro r i1 h1 hi1 ⟨b,rfl⟩
 simp(disch:=omega)only[go_sem]
 cases b
 ·simp(disch:=omega)only[go_sem]
  refine qr (qH l hl i1 h1 hi1 6 (by omega)) ?_
  rintro r i2 h2 hi2 ⟨k,hk,rfl⟩
  simp(disch:=omega)only[go_sem]
  have:=hk.2 (by omega)
  refine qM (i2) (h2) ⟨_,by omega,rfl⟩
 ·simp(disch:=omega)only[go_sem]
  refine j0 (zE l hl i1 h1 hi1 [100,99,50,20] (by simp) (by simp)) ?_
  rintro r i2 h2 hi2 ⟨x,hx,rfl⟩
  have hx_b:0≤x∧x≤100:=by
   simp only[List.mem_cons,List.not_mem_nil,or_false]at hx
   omega
  clear hx
  simp(disch:=omega)only[go_sem]
  refine qM (i2) (h2) ⟨_,by omega,rfl⟩
theorem Yd:Con Tryz.prog 282 false [.pt 10000000 0] [.own 0 [.sl l.length (qk l),.v (.int .i64 i),.v (.int .i64 h)]] (fun r hs bs=>(∃m:Nat,bl m≤1600∧aFp m r hs [])∧∃i h:Int,(0≤i∧i≤l.length)∧bs=[.own 0 [.sl l.length (qk l),.v (.int .i64 i),.v (.int .i64 h)]]):=by
 refine Con.of_aw Tryz.func282 rfl Tryz.ntmps282 (by simp) (by simp) (by simp) (W.sound ?_)
 show @W Tryz.prog 38 ⟨_⟩ ⟨fun x σ=>@qR _ _ _ ⟨_⟩ _ ⟨_⟩ x σ⟩ _ _
 simp(disch:=omega)only[go_sem]
 refine qr (Y9 l hl i h hi) ?_
 rintro r i1 h1 hi1 ⟨k,hk,rfl⟩
 simp(disch:=omega)only[go_sem]
 refine qj (fun x:Nat×List Int×Int×Int=>[(0,.pt 10000000 0),(2,.pt 2 0),(3,.rf 1 0 x.2.1.length),(4,.v (.int .i64 k)),(5,.v (.int .i64 x.1))])
  (fun x=>[(1,.own 1 (qc x.2.1)),(2,.own 0 [.v (.slice none 0 0)]),(10000000,.own 0 [.sl l.length (qk l),.v (.int .i64 x.2.2.1),.v (.int .i64 x.2.2.2)])])
  (fun x=>x.1≤k.toNat∧x.2.1.length=x.1∧gd x.2.1∧(0≤x.2.2.1∧x.2.2.1≤l.length)) (fun x=>k.toNat-x.1) (0,[],i1,h1) ⟨by simp,rfl,by simp[gd],hi1⟩
  ((Le.ghost 3 1 1 (by simp(disch:=omega)only[go_sem]) (by simp(disch:=omega)only[go_sem])).trans (Le.lst [(2,40000000)] _ _ rfl (by simp(disch:=omega)only[go_sem]) (by simp(disch:=omega)only[go_sem]))) ?_
 rintro⟨j,xs,i2,h2⟩ ⟨hj,hxl,hg,hi2⟩
 dsimp only at hj hxl hg hi2 ⊢
 simp(disch:=omega)only[go_sem]
 refine qe (fun c1=>?_) (fun c1=>?_)
 ·simp(disch:=omega)only[go_sem,c1]
  refine qr (qH l hl i2 h2 hi2 4 (by omega)) ?_
  rintro r i3 h3 hi3 ⟨q,hq,rfl⟩
  simp(disch:=omega)only[go_sem]
  by_cases q0:q=0
  ·simp(disch:=omega)only[go_sem,q0]
   exact⟨by omega,qb (j+1,xs++[65535],i3,h3) [(1,260000000)] ⟨by dsimp only;omega,by simp[hxl],qF.2 ⟨hg,by simp[gd]⟩,hi3⟩ (by show k.toNat-(j+1)<k.toNat-j;omega) rfl (by simp(disch:=omega)only[go_sem,List.length_append];try omega) (by simp(disch:=omega)only[go_sem])⟩
  by_cases q1:q=1
  ·simp(disch:=omega)only[go_sem,q0,q1]
   exact⟨by omega,qb (j+1,xs++[0],i3,h3) [(1,310000000)] ⟨by dsimp only;omega,by simp[hxl],qF.2 ⟨hg,by simp[gd]⟩,hi3⟩ (by show k.toNat-(j+1)<k.toNat-j;omega) rfl (by simp(disch:=omega)only[go_sem,List.length_append];try omega) (by simp(disch:=omega)only[go_sem])⟩
  simp(disch:=omega)only[go_sem,q0,q1]
  refine qr (qH l hl i3 h3 hi3 65536 (by omega)) ?_
  rintro r i4 h4 hi4 ⟨d,hd,rfl⟩
  simp(disch:=omega)only[go_sem]
  have hd2:=hd.2 (by omega)
  exact⟨by omega,qb (j+1,xs++[d],i4,h4) [(1,210000000)] ⟨by dsimp only;omega,by simp[hxl],qF.2 ⟨hg,QS.2 ⟨by omega,by simp[gd]⟩⟩,hi4⟩ (by show k.toNat-(j+1)<k.toNat-j;omega) rfl (by simp(disch:=omega)only[go_sem,List.length_append];try omega) (by simp(disch:=omega)only[go_sem])⟩
 ·simp(disch:=omega)only[go_sem,c1]
  refine qr (qL l hl i2 h2 hi2 4 (by omega)) ?_
  rintro r i3 h3 hi3 ⟨b,rfl⟩
  simp(disch:=omega)only[go_sem]
  cases b
  ·simp(disch:=omega)only[go_sem]
   have hv:vl xs=((vl xs).toNat:Int):=(Int.toNat_of_nonneg (qU hg)).symm
   have hb:bl (vl xs).toNat≤1600:=by
    refine zy.2 ?_
    have h1:=QL hg
    have h2:(65536:Int)^xs.length≤65536^100:=by
     rw[show(65536:Int)=((65536:Nat):Int) from rfl,←Int.natCast_pow,←Int.natCast_pow]
     exact Int.ofNat_le.2 (Nat.pow_le_pow_right (by omega) (by omega))
    have h3:(65536:Int)^100=((2^1600:Nat):Int):=by decide+kernel
    omega
   generalize (vl xs).toNat=m at*
   refine qz (jw true xs m (by omega) hg hv) (by simp(disch:=omega)only[go_sem]) ?_
   rintro r hs (⟨h0,rfl,rfl⟩|⟨zs,rfl,rfl⟩)
   ·refine⟨⟨by simp,by simp(disch:=omega)only[go_sem]⟩,?_⟩
    simp(disch:=omega)only[go_sem]
    refine qg [] [] [.own 0 [.sl l.length (qk l),.v (.int .i64 i3),.v (.int .i64 h3)]] [.ag [.v (.slice none 0 0)]] rfl (by simp(disch:=omega)only[go_sem]) (by simp(disch:=omega)only[go_sem]) (by simp) (by simp) ⟨⟨m,hb,.inl ⟨h0,rfl,rfl⟩⟩,_,_,hi3,rfl⟩
   ·refine⟨⟨by simp,by simp(disch:=omega)only[go_sem]⟩,?_⟩
    simp(disch:=omega)only[go_sem]
    refine qg [(0,390000000)] [.own 1 (qc (lim m++zs))] [.own 0 [.sl l.length (qk l),.v (.int .i64 i3),.v (.int .i64 h3)]] [.ag [.rf 0 0 (lim m).length]] rfl (by simp(disch:=omega)only[go_sem]) (by simp(disch:=omega)only[go_sem]) (by simp) (by simp) ⟨⟨m,hb,.inr ⟨zs,rfl,rfl⟩⟩,_,_,hi3,rfl⟩
  ·simp(disch:=omega)only[go_sem]
   refine j0 (zE l hl i3 h3 hi3 [0,1,2,9,10,65535,65536,1099511627776,4611686018427387903,4611686018427387904] (by simp) (by simp)) ?_
   rintro r i4 h4 hi4 ⟨x,hx,rfl⟩
   have hx_b:0≤x∧x≤4611686018427387904:=by
    simp only[List.mem_cons,List.not_mem_nil,or_false]at hx
    omega
   clear hx
   simp(disch:=omega)only[go_sem]
   obtain⟨n,rfl⟩:=Int.eq_ofNat_of_zero_le hx_b.1
   have hb:bl n≤1600:=Nat.le_trans (show bl n≤63 from zy.2 (by omega)) (by omega)
   refine qz (Y8 true n (by omega)) (by simp(disch:=omega)only[go_sem]) ?_
   rintro r hs (⟨h0,rfl,rfl⟩|⟨zs,rfl,rfl⟩)
   ·refine⟨⟨by simp,by simp(disch:=omega)only[go_sem]⟩,?_⟩
    simp(disch:=omega)only[go_sem]
    refine qg [] [] [.own 0 [.sl l.length (qk l),.v (.int .i64 i4),.v (.int .i64 h4)]] [.ag [.v (.slice none 0 0)]] rfl (by simp(disch:=omega)only[go_sem]) (by simp(disch:=omega)only[go_sem]) (by simp) (by simp) ⟨⟨n,hb,.inl ⟨h0,rfl,rfl⟩⟩,_,_,hi4,rfl⟩
   ·refine⟨⟨by simp,by simp(disch:=omega)only[go_sem]⟩,?_⟩
    simp(disch:=omega)only[go_sem]
    refine qg [(0,370000000)] [.own 1 (qc (lim n++zs))] [.own 0 [.sl l.length (qk l),.v (.int .i64 i4),.v (.int .i64 h4)]] [.ag [.rf 0 0 (lim n).length]] rfl (by simp(disch:=omega)only[go_sem]) (by simp(disch:=omega)only[go_sem]) (by simp) (by simp) ⟨⟨n,hb,.inr ⟨zs,rfl,rfl⟩⟩,_,_,hi4,rfl⟩
end
end Go.Ab
namespace Go.Ab
open Go Go.Proofs
end Go.Ab
namespace Go.Ab
open Go Go.Proofs
end Go.Ab
namespace Go.Ab
open Go Go.Proofs
def awV(s:Bool)(m e:Int):FlV:=if m<9007199254740991 then⟨1,s,m+1,e⟩else if e<971 then⟨1,s,4503599627370496,e+1⟩else⟨2,s,0,0⟩
def toV(k:Int)(s:Bool)(m e:Int):FlV:=if k=2 then⟨1,s,9007199254740991,971⟩else if 4503599627370496<m∨(e= -1074∧1<m)then⟨k,s,m-1,e⟩else if-1074<e then⟨k,s,9007199254740991,e-1⟩else⟨0,s,0,0⟩
def nxV(k:Int)(s:Bool)(m e:Int):FlV:=if k=3∨(k=2∧s=false)then⟨k,s,m,e⟩else if k=0 then⟨1,false,1, -1074⟩else if s=true then toV k s m e else awV s m e
def ulE(k e:Int):Int:=if k=0 then-1074 else e
end Go.Ab
namespace Go.Ab
structure Adj(k:Int)(s:Bool)(m e:Int)(n:FlV)(t:Bool)(a:Nat)(E:Int):Prop where
 ha:a<2^53
 hf:2^52≤a∨E= -1074
 hE: -1074≤E∧E≤971
 ho:¬(a+1=2^53∧E=971)
 hu:E≤ulE k e
 lo:dv 1074 (xS k s) m.toNat e=dv 1074 t (if t=true then a+1 else a) E
 hi:dv 1074 (xS n.k n.s) n.m.toNat n.e=dv 1074 t (if t=true then a else a+1) E
theorem be9:ngS 1 false=true:=rfl
theorem be7:ngS 1 true=false:=rfl
theorem be8:ngS 2 false=true:=rfl
end Go.Ab
namespace Go.Ab
open Go Go.Proofs
theorem aau{n:Nat}{e:Int}(hn:bl n≤1500)(he: -3000≤e∧e≤1400):jP n e=true:=by
 have q4:=yh (apn n)
 have l1:=qB (m:=oM n) (B:=1500) (by omega)
 have q5: -3000≤oE n e∧oE n e≤3000:=by
  unfold oE
  by_cases h:n=0
  ·rw[if_pos h];omega
  ·rw[if_neg h];have:=yI h;omega
 unfold jP jV
 simp only[Bool.and_eq_true,decide_eq_true_eq]
 omega
def bef(ok:Bool):AV→List Ob→List Ob→Prop:=fun r hs bs=>hs=[]∧bs=[]∧∃(S:Bool) (M:Nat) (E:Int) (b:Bool),dyB S (lim M) E=true∧(ok=false→b=false)∧r=.tu [.ag [.v (.bool (S)),.sl (lim (M)).length (qc (lim (M))),.v (.int .i64 (E))],.v (.bool b)]
end Go.Ab
namespace Go.Ab
def ivM(s:Bool)(m:Nat)(e mode:Int):Nat:=roM s m e 0 mode*2^(roE m e 0).toNat
end Go.Ab
namespace Go.Ab
open Go Go.Proofs
end Go.Ab
namespace Go.Ab
open Go Go.Proofs
end Go.Ab
namespace Go.Ab
open Go Go.Proofs
end Go.Ab
namespace Go.Ab
open Go Go.Proofs
def bfg(k m:Int):Nat:=if k=1 then oM m.toNat else 0
def bfh(k m e:Int):Int:=if k=1 then oE m.toNat e else 0
def bff(k:Int)(s:Bool)(m:Int):Bool:=if k=1 then oS (s&&decide (m.toNat≠0)) m.toNat else false
end Go.Ab
namespace Go.Ab
open Go Go.Proofs
def bee:AV→List Ob→List Ob→Prop:=fun r hs bs=>hs=[]∧bs=[]∧∃x:FlV,r=.ag x.cs
section
variable (l:List UInt8)(hl:l.length≤9223372036854775807)(i h:Int)(hi:0≤i∧i≤l.length)
include hl hi
end
end Go.Ab
namespace Go.Ab
open Go Go.Proofs
section
variable (l:List UInt8)(hl:l.length≤9223372036854775807)(i h:Int)(hi:0≤i∧i≤l.length)
include hl hi
end
end Go.Ab
namespace Go.Ab
open Go
end Go.Ab
namespace Go.Ab
open Go Go.Proofs
end Go.Ab
namespace Go.Ab
open Go Go.Proofs
end Go.Ab
namespace Go.Ab
open Go Go.Proofs
section
variable (l:List UInt8)(hl:l.length≤9223372036854775807)(i h:Int)(hi:0≤i∧i≤l.length)
include hl hi
end
theorem aq7(l:List UInt8)(hl:l.length≤9223372036854775807):Con Tryz.prog 75 false [.sl l.length (qk l)] [] (fun r hs bs=>r=.pt 0 0∧bs=[]∧∃h:Int,hs=[.own 0 [.sl l.length (qk l),.v (.int .i64 0),.v (.int .i64 h)]]):=by
 refine Con.of_aw Tryz.func75 rfl Tryz.ntmps75 (by simp) (by simp) (by simp) (W.sound ?_)
 show @W Tryz.prog 32 ⟨_⟩ ⟨fun x σ=>@qR _ _ _ ⟨_⟩ _ ⟨_⟩ x σ⟩ _ _
 simp(disch:=omega)only[go_sem]
 refine qj (fun x:Nat×Int=>[(0,.sl l.length (qk l)),(3,.v (.int .i64 x.2)),(4,.v (.int .i64 x.1))]) (fun _=>[]) (fun x=>x.1≤l.length) (fun x=>l.length-x.1) (0,IntKind.i64.wrap (38282+l.length)) (by simp)
  (Le.lst [] _ _ rfl (by simp(disch:=omega)only[go_sem]) (by simp(disch:=omega)only[go_sem])) ?_
 rintro⟨i,h⟩ hi
 dsimp only at hi ⊢
 have hfin:∀l':List AV,l'=[.pt 0 0]→(fun r hs bs=>r=.pt 0 0∧bs=[]∧∃h:Int,hs=[.own 0 [.sl l.length (qk l),.v (.int .i64 0),.v (.int .i64 h)]]:AV→List Ob→List Ob→Prop) (zg l') [.own 0 [.sl l.length (qk l),.v (.int .i64 0),.v (.int .i64 h)]] []:=fun l' e=>by subst e;exact⟨rfl,rfl,h,rfl⟩
 by_cases h1:(i:Int)<l.length
 ·by_cases h2:(i:Int)<4000
  ·simp(disch:=omega)only[go_sem,h1,h2]
   generalize IntKind.i64.wrap (IntKind.i64.wrap (IntKind.i64.wrap (h*131)+IntKind.i64.wrap ((l.getD i 0).toNat:Int))+7) % 1073741824=h'
   exact⟨⟨by omega,by omega⟩,by omega,qb (i+1,h') [] (by show i+1≤_;omega) (by show l.length-(i+1)<l.length-i;omega) rfl (by simp(disch:=omega)only[go_sem];try omega) (by simp(disch:=omega)only[go_sem])⟩
  ·simp(disch:=omega)only[go_sem,h1,h2]
   refine qg [(0,330000000)] [.own 0 [.sl l.length (qk l),.v (.int .i64 0),.v (.int .i64 h)]] [] [.pt 0 0] rfl (by simp(disch:=omega)only[go_sem]) (by simp(disch:=omega)only[go_sem]) (by simp) (by simp) (hfin _ rfl)
 ·simp(disch:=omega)only[go_sem,h1]
  refine qg [(0,330000000)] [.own 0 [.sl l.length (qk l),.v (.int .i64 0),.v (.int .i64 h)]] [] [.pt 0 0] rfl (by simp(disch:=omega)only[go_sem]) (by simp(disch:=omega)only[go_sem]) (by simp) (by simp) (hfin _ rfl)
end Go.Ab
namespace Go.Ab
open Go Go.Proofs
end Go.Ab
namespace Go.Ab
open Go Go.Proofs
end Go.Ab
namespace Go.Ab
open Go Go.Proofs
end Go.Ab
namespace Go.Ab
open Go Go.Proofs
end Go.Ab
namespace Go.Ab
open Go Go.Proofs
theorem QK{s:Bool}{m:Nat}(h:(lim m).length≤100)(hs:m=0→s=false):zO s (lim m)=true:=by
 unfold zO
 rw[apx m h,Bool.true_and]
 by_cases h0:m=0
 ·rw[hs h0];rfl
 ·have:=Qu h0
  rw[decide_eq_false (show ¬(lim m).length=0 by omega),Bool.and_false];rfl
end Go.Ab
namespace Go.Ab
open Go Go.Proofs
def aZv(r:AV)(hs:List Ob)(xs:List Int):Prop:=(xs=[]∧r=.ag [.v (.slice none 0 0)]∧hs=[])∨∃zs,r=.ag [.rf 0 0 xs.length]∧hs=[.own 1 (qc (xs++zs))]
section
variable (l:List UInt8)(hl:l.length≤9223372036854775807)(i h:Int)(hi:0≤i∧i≤l.length)
include hl hi
theorem aem:Con Tryz.prog 265 false [.pt 10000000 0] [.own 0 [.sl l.length (qk l),.v (.int .i64 i),.v (.int .i64 h)]] (fun r hs bs=>(∃xs:List Int,xs.length≤200∧aZv r hs xs)∧∃i h:Int,(0≤i∧i≤l.length)∧bs=[.own 0 [.sl l.length (qk l),.v (.int .i64 i),.v (.int .i64 h)]]):=by
 refine Con.of_aw Tryz.func265 rfl Tryz.ntmps265 (by simp) (by simp) (by simp) (W.sound ?_)
 show @W Tryz.prog 43 ⟨_⟩ ⟨fun x σ=>@qR _ _ _ ⟨_⟩ _ ⟨_⟩ x σ⟩ _ _
 simp(disch:=omega)only[go_sem]
 refine yG false [10000000] (Yd l hl i h hi) (by simp(disch:=omega)only[go_sem]) (by simp(disch:=omega)only[go_sem]) rfl (qQ (z:=0) (cs:=[.sl l.length (qk l),.v (.int .i64 i),.v (.int .i64 h)]) (by simp(disch:=omega)only[go_sem]) (by simp(disch:=omega)only[go_sem])) (by intro n hn;exact⟨_,List.mem_cons_self ..,by rw[List.mem_singleton.1 hn];rfl⟩) ?_
 rintro r hs bs ⟨⟨m,hb,(⟨h0,rfl,rfl⟩|⟨zs,rfl,rfl⟩)⟩,i1,h1,hi1,rfl⟩-
 ·refine⟨by simp[qO],?_⟩
  simp(disch:=omega)only[go_sem]
  refine qr (qL l hl i1 h1 hi1 9 (by omega)) ?_
  rintro r i2 h2 hi2 ⟨b,rfl⟩
  simp(disch:=omega)only[go_sem]
  cases b
  ·simp(disch:=omega)only[go_sem]
   refine qg [] [] [.own 0 [.sl l.length (qk l),.v (.int .i64 i2),.v (.int .i64 h2)]] [.ag [.v (.slice none 0 0)]] rfl (by simp(disch:=omega)only[go_sem]) (by simp(disch:=omega)only[go_sem]) (by simp) (by simp) ⟨⟨[],by simp,.inl ⟨rfl,rfl,rfl⟩⟩,_,_,hi2,rfl⟩
  ·simp(disch:=omega)only[go_sem]
   refine qr (qH l hl i2 h2 hi2 4 (by omega)) ?_
   rintro r i3 h3 hi3 ⟨q,hq,rfl⟩
   simp(disch:=omega)only[go_sem]
   by_cases c0:q=0
   ·simp(disch:=omega)only[go_sem,c0]
    refine qg [(0,280000000)] [.own 1 (qc ([0]++[]))] [.own 0 [.sl l.length (qk l),.v (.int .i64 i3),.v (.int .i64 h3)]] [.ag [.rf 0 0 1]] rfl (by simp(disch:=omega)only[go_sem]) (by simp(disch:=omega)only[go_sem];rfl) (by simp) (by simp) ⟨⟨[0],by simp,.inr ⟨[],rfl,rfl⟩⟩,_,_,hi3,rfl⟩
   by_cases c1:q=1
   ·simp(disch:=omega)only[go_sem,c0,c1]
    refine qg [(0,350000000)] [.own 1 (qc ([-1]++[]))] [.own 0 [.sl l.length (qk l),.v (.int .i64 i3),.v (.int .i64 h3)]] [.ag [.rf 0 0 1]] rfl (by simp(disch:=omega)only[go_sem]) (by simp(disch:=omega)only[go_sem];rfl) (by simp) (by simp) ⟨⟨[-1],by simp,.inr ⟨[],rfl,rfl⟩⟩,_,_,hi3,rfl⟩
   by_cases c2:q=2
   ·simp(disch:=omega)only[go_sem,c0,c1,c2]
    refine qg [(0,420000000)] [.own 1 (qc ([65536]++[]))] [.own 0 [.sl l.length (qk l),.v (.int .i64 i3),.v (.int .i64 h3)]] [.ag [.rf 0 0 1]] rfl (by simp(disch:=omega)only[go_sem]) (by simp(disch:=omega)only[go_sem];rfl) (by simp) (by simp) ⟨⟨[65536],by simp,.inr ⟨[],rfl,rfl⟩⟩,_,_,hi3,rfl⟩
   simp(disch:=omega)only[go_sem,c0,c1,c2]
   refine qj (fun x:List Int×List Int=>[(2,.pt 4 0),(3,.pt 3 0)]) (fun x=>[(1,.own 1 (qc (x.1++x.2))),(3,.own 0 [.rf 1 0 x.1.length]),(4,.own 0 [.v (.slice none 0 0)]),(10000000,.own 0 [.sl l.length (qk l),.v (.int .i64 i3),.v (.int .i64 h3)])])
    (fun x=>x.1.length≤101) (fun x=>101-x.1.length) ([],[])
    (by simp) ((Le.ghostC 50000000 0 1 1 (zo:=0) (cs:=[.v (.slice none 0 0)]) (by simp(disch:=omega)only[go_sem]) rfl (by simp(disch:=omega)only[go_sem])).trans (Le.lst [(3,50000000),(4,40000000)] _ _ rfl (by simp(disch:=omega)only[go_sem]) (by simp(disch:=omega)only[go_sem,List.set_cons_zero]))) ?_
   rintro⟨xs,ys⟩ hx
   dsimp only at hx ⊢
   simp(disch:=omega)only[go_sem]
   refine qe (fun c3=>?_) (fun c3=>?_)
   ·simp(disch:=omega)only[go_sem,c3]
    exact⟨⟨by simp,by omega⟩,qb (xs++[1],[]) [(1,210000000)] (by simp;omega) (by simp;omega) rfl (by simp(disch:=omega)only[go_sem,List.length_append];try omega) (by simp(disch:=omega)only[go_sem,List.length_append,List.append_nil,List.take_left])⟩
   ·simp(disch:=omega)only[go_sem,c3]
    refine qg [(0,1)] [.own 1 (qc (xs++ys))] [.own 0 [.sl l.length (qk l),.v (.int .i64 i3),.v (.int .i64 h3)]] [.ag [.rf 0 0 xs.length]] rfl (by simp(disch:=omega)only[go_sem]) (by simp(disch:=omega)only[go_sem]) (by simp) (by simp) ⟨⟨xs,by omega,.inr ⟨ys,rfl,rfl⟩⟩,_,_,hi3,rfl⟩
 ·have hx:=qB (m:=m) (B:=1600) hb
  refine⟨by simp[qO];simp(disch:=omega)only[go_sem],?_⟩
  simp(disch:=omega)only[go_sem]
  refine qr (qL l hl i1 h1 hi1 9 (by omega)) ?_
  rintro r i2 h2 hi2 ⟨b,rfl⟩
  simp(disch:=omega)only[go_sem]
  cases b
  ·simp(disch:=omega)only[go_sem]
   refine qg [(0,70000000)] [.own 1 (qc (lim m++zs))] [.own 0 [.sl l.length (qk l),.v (.int .i64 i2),.v (.int .i64 h2)]] [.ag [.rf 0 0 (lim m).length]] rfl (by simp(disch:=omega)only[go_sem]) (by simp(disch:=omega)only[go_sem]) (by simp) (by simp) ⟨⟨lim m,by have:=qB (m:=m) (B:=1600) hb;omega,.inr ⟨zs,rfl,rfl⟩⟩,_,_,hi2,rfl⟩
  ·simp(disch:=omega)only[go_sem]
   refine qr (qH l hl i2 h2 hi2 4 (by omega)) ?_
   rintro r i3 h3 hi3 ⟨q,hq,rfl⟩
   simp(disch:=omega)only[go_sem]
   by_cases c0:q=0
   ·simp(disch:=omega)only[go_sem,c0]
    exact⟨⟨by simp,by omega⟩,qg [(0,280000000)] [.own 1 (qc (lim m++[0]++[]))] [.own 0 [.sl l.length (qk l),.v (.int .i64 i3),.v (.int .i64 h3)]] [.ag [.rf 0 0 ((lim m).length+1)]] rfl (by simp(disch:=omega)only[go_sem]) (by simp(disch:=omega)only[go_sem,List.take_left',List.append_nil]) (by simp) (by simp) ⟨⟨lim m++[0],by simp;omega,.inr ⟨[],by rw[List.length_append];rfl,rfl⟩⟩,_,_,hi3,rfl⟩⟩
   by_cases c1:q=1
   ·simp(disch:=omega)only[go_sem,c0,c1]
    exact⟨⟨by simp,by omega⟩,qg [(0,350000000)] [.own 1 (qc (lim m++[-1]++[]))] [.own 0 [.sl l.length (qk l),.v (.int .i64 i3),.v (.int .i64 h3)]] [.ag [.rf 0 0 ((lim m).length+1)]] rfl (by simp(disch:=omega)only[go_sem]) (by simp(disch:=omega)only[go_sem,List.take_left',List.append_nil]) (by simp) (by simp) ⟨⟨lim m++[-1],by simp;omega,.inr ⟨[],by rw[List.length_append];rfl,rfl⟩⟩,_,_,hi3,rfl⟩⟩
   by_cases c2:q=2
   ·simp(disch:=omega)only[go_sem,c0,c1,c2]
    exact⟨⟨by simp,by omega⟩,qg [(0,420000000)] [.own 1 (qc (lim m++[65536]++[]))] [.own 0 [.sl l.length (qk l),.v (.int .i64 i3),.v (.int .i64 h3)]] [.ag [.rf 0 0 ((lim m).length+1)]] rfl (by simp(disch:=omega)only[go_sem]) (by simp(disch:=omega)only[go_sem,List.take_left',List.append_nil]) (by simp) (by simp) ⟨⟨lim m++[65536],by simp;omega,.inr ⟨[],by rw[List.length_append];rfl,rfl⟩⟩,_,_,hi3,rfl⟩⟩
   simp(disch:=omega)only[go_sem,c0,c1,c2]
   refine qj (fun x:List Int×List Int=>[(2,.pt 4 0),(3,.pt 3 0)]) (fun x=>[(1,.own 1 (qc (x.1++x.2))),(3,.own 0 [.rf 1 0 x.1.length]),(4,.own 0 [.v (.slice none 0 0)]),(10000000,.own 0 [.sl l.length (qk l),.v (.int .i64 i3),.v (.int .i64 h3)])])
    (fun x=>x.1.length≤101) (fun x=>101-x.1.length) (lim m,zs)
    (by show(lim m).length≤101;omega) (Le.lst [(3,50000000),(4,40000000),(1,70000000)] _ _ rfl (by simp(disch:=omega)only[go_sem]) (by simp(disch:=omega)only[go_sem])) ?_
   rintro⟨xs,ys⟩ hx
   dsimp only at hx ⊢
   simp(disch:=omega)only[go_sem]
   refine qe (fun c3=>?_) (fun c3=>?_)
   ·simp(disch:=omega)only[go_sem,c3]
    exact⟨⟨by simp,by omega⟩,qb (xs++[1],[]) [(1,210000000)] (by simp;omega) (by simp;omega) rfl (by simp(disch:=omega)only[go_sem,List.length_append];try omega) (by simp(disch:=omega)only[go_sem,List.length_append,List.append_nil,List.take_left])⟩
   ·simp(disch:=omega)only[go_sem,c3]
    refine qg [(0,1)] [.own 1 (qc (xs++ys))] [.own 0 [.sl l.length (qk l),.v (.int .i64 i3),.v (.int .i64 h3)]] [.ag [.rf 0 0 xs.length]] rfl (by simp(disch:=omega)only[go_sem]) (by simp(disch:=omega)only[go_sem]) (by simp) (by simp) ⟨⟨xs,by omega,.inr ⟨ys,rfl,rfl⟩⟩,_,_,hi3,rfl⟩
omit hi hl in
theorem Con.cur{f:Nat}{args:List AV}{Q:AV→List Ob→Prop}{Q':AV→Prop}(hc:Con Tryz.prog f false args [.own 0 [.sl l.length (qk l),.v (.int .i64 i),.v (.int .i64 h)]] (fun r hs bs=>Q r hs∧∃i h:Int,(0≤i∧i≤l.length)∧bs=[.own 0 [.sl l.length (qk l),.v (.int .i64 i),.v (.int .i64 h)]]))
  (hq:∀r hs,Q r hs→(∀ob∈hs,ob.men fun _=>False)∧Q' (qE (rhp hs []) 6 r)):Con Tryz.prog f false args [.own 0 [.sl l.length (qk l),.v (.int .i64 i),.v (.int .i64 h)]] (J3 l Q'):=
 (Con.frzB hc (by
  rintro r hs bs ⟨h1,i,h, -,rfl⟩
  exact⟨by simp[Ob.men,AllL,AV.All],(hq r hs h1).1⟩)).mono fun r hs bs=>by
   rintro⟨rfl,r0,hs0,⟨h1,h2⟩,rfl⟩
   exact⟨rfl,(hq _ _ h1).2,h2⟩
omit hi hl in
theorem Con.curF{f:Nat}{args:List AV}{Q Q':AV→Prop}(hc:Con Tryz.prog f false args [.own 0 [.sl l.length (qk l),.v (.int .i64 i),.v (.int .i64 h)]] (J3 l Q))(hq:∀r,Q r→Q' (qE (rhp [] []) 6 r)):
  Con Tryz.prog f false args [.own 0 [.sl l.length (qk l),.v (.int .i64 i),.v (.int .i64 h)]] (J3 l Q'):=
 Con.cur l i h (Q:=fun r hs=>hs=[]∧Q r) (hc.mono fun r hs bs ⟨h1,h2,h3⟩=>⟨⟨h1,h2⟩,h3⟩) fun r hs ⟨h1,h2⟩=>by subst h1;exact⟨by simp,hq r h2⟩
omit hi hl in
theorem Zw{r:AV}{hs:List Ob}{xs:List Int}(h:aZv r hs xs):(∀ob∈hs,ob.men fun _=>False)∧qE (rhp hs []) 6 r=.ag [.sl xs.length (qc xs)]:=by
 rcases h with⟨rfl,rfl,rfl⟩|⟨zs,rfl,rfl⟩
 ·exact⟨by simp,rfl⟩
 ·refine⟨by intro ob ho;rw[List.mem_singleton.1 ho];exact ZA,?_⟩
  show AV.ag [qE _ 5 (.rf 0 0 xs.length)]=_
  rw[j8 zb rfl]
theorem ael:Con Tryz.prog 282 false [.pt 10000000 0] [.own 0 [.sl l.length (qk l),.v (.int .i64 i),.v (.int .i64 h)]] (J3 l fun r=>∃m:Nat,bl m≤1600∧r=.ag [.sl (lim (m)).length (qc (lim (m)))]):=
 Con.cur l i h (Yd l hl i h hi) fun r hs ⟨m,hb,hr⟩=>by
  have:aZv r hs (lim m):=hr.elim (fun⟨h0,h1,h2⟩=>.inl ⟨by rw[h0,qo],h1,h2⟩) .inr
  exact⟨(Zw this).1,m,hb,(Zw this).2⟩
theorem aj6:Con Tryz.prog 265 false [.pt 10000000 0] [.own 0 [.sl l.length (qk l),.v (.int .i64 i),.v (.int .i64 h)]] (J3 l fun r=>∃xs:List Int,xs.length≤200∧r=.ag [.sl xs.length (qc xs)]):=
 Con.cur l i h (aem l hl i h hi) fun r hs ⟨xs,hb,hr⟩=>⟨(Zw hr).1,xs,hb,(Zw hr).2⟩
theorem Ya:Con Tryz.prog 264 false [.pt 10000000 0] [.own 0 [.sl l.length (qk l),.v (.int .i64 i),.v (.int .i64 h)]] (J3 l fun r=>∃(s:Bool) (m:Nat),bl m≤1600∧r=.ag [.v (.bool (s&&decide (m≠0))),.sl (lim (m)).length (qc (lim (m)))]):=by
 refine Con.of_aw Tryz.func264 rfl Tryz.ntmps264 (by simp) (by simp) (by simp) (W.sound ?_)
 show @W Tryz.prog 8 ⟨_⟩ ⟨fun x σ=>@qR _ _ _ ⟨_⟩ _ ⟨_⟩ x σ⟩ _ _
 simp(disch:=omega)only[go_sem]
 refine qr (qL l hl i h hi 2 (by omega)) ?_
 rintro r i1 h1 hi1 ⟨b,rfl⟩
 simp(disch:=omega)only[go_sem]
 refine qr (ael l hl i1 h1 hi1) ?_
 rintro r i2 h2 hi2 ⟨m,hm,rfl⟩
 simp(disch:=omega)only[go_sem]
 have hx:=qB (m:=m) (B:=1600) hm
 refine qa (zq b m (by omega)) ?_
 simp(disch:=omega)only[go_sem]
 refine qM (i2) (h2) ⟨b,m,hm,rfl⟩
theorem aj4:Con Tryz.prog 221 false [.pt 10000000 0] [.own 0 [.sl l.length (qk l),.v (.int .i64 i),.v (.int .i64 h)]] (J3 l fun r=>∃(s:Bool) (xs:List Int),xs.length≤200∧r=.ag [.v (.bool s),.sl xs.length (qc xs)]):=by
 refine Con.curF (Q:=fun r=>∃(s:Bool) (xs:List Int),xs.length≤200∧(r=.ag [.v (.bool s),.sl xs.length (qc xs)]∨(xs=[]∧r=.ag [.v (.bool s),.v (.slice none 0 0)]))) l i h ?_ (fun r ⟨s,xs,h1,h2⟩=>⟨s,xs,h1,h2.elim (fun h=>by rw[h];rfl) fun⟨h,h'⟩=>by rw[h,h'];rfl⟩)
 refine Con.of_aw Tryz.func221 rfl Tryz.ntmps221 (by simp) (by simp) (by simp) (W.sound ?_)
 show @W Tryz.prog 15 ⟨_⟩ ⟨fun x σ=>@qR _ _ _ ⟨_⟩ _ ⟨_⟩ x σ⟩ _ _
 simp(disch:=omega)only[go_sem]
 refine qr (Ya l hl i h hi) ?_
 rintro r i1 h1 hi1 ⟨s,m,hm,rfl⟩
 simp(disch:=omega)only[go_sem]
 have hx:=qB (m:=m) (B:=1600) hm
 refine qr (qL l hl i1 h1 hi1 9 (by omega)) ?_
 rintro r i2 h2 hi2 ⟨b,rfl⟩
 simp(disch:=omega)only[go_sem]
 cases b
 ·simp(disch:=omega)only[go_sem]
  refine qM (i2) (h2) ⟨_,lim m,by omega,.inl rfl⟩
 ·simp(disch:=omega)only[go_sem]
  refine qr (qL l hl i2 h2 hi2 2 (by omega)) ?_
  rintro r i3 h3 hi3 ⟨b,rfl⟩
  simp(disch:=omega)only[go_sem]
  cases b
  ·simp(disch:=omega)only[go_sem]
   refine qr (aj6 l hl i3 h3 hi3) ?_
   rintro r i4 h4 hi4 ⟨xs,hxs,rfl⟩
   simp(disch:=omega)only[go_sem]
   refine qM (i4) (h4) ⟨_,xs,hxs,.inl rfl⟩
  ·simp(disch:=omega)only[go_sem]
   refine qM (i3) (h3) ⟨true,[],by simp,.inr ⟨rfl,rfl⟩⟩
omit hi hl in
theorem YZ:AV.ag [.v (.bool false),.sl 0 [],.v (.int .i64 0)]=.ag [.v (.bool (ex0).s),.sl (lim (ex0).m).length (qc (lim (ex0).m)),.v (.int .i64 (ex0).e)]:=by
 show _=AV.ag [.v (.bool false),.sl (lim 0).length (qc (lim 0)),.v (.int .i64 0)]
 rw[qo];rfl
omit hi hl in
theorem yF(x:ExV)(h:zO x.s (lim x.m)=true)(he: -12000≤x.e∧x.e≤12000):Con Tryz.prog 126 false [.ag [.v (.bool (x.s)),.sl (lim (x.m)).length (qc (lim (x.m)))],.v (.int .i64 x.e)] [] (isA (.tu [.ag [.v (.bool (x.tel).s),.sl (lim (x.tel).m).length (qc (lim (x.tel).m)),.v (.int .i64 (x.tel).e)],.v (.bool x.fit)])):=by
 have c:=aaR x.s x.m x.e h he
 rw[show jP x.m x.e=x.fit from rfl]at c
 unfold ExV.tel
 cases hf:x.fit<;>rw[hf]at c<;>exact c
omit hi hl in
theorem aK9{m:Nat}(h:bl m≤1600):(lim m).length≤100:=jL.2 (Nat.lt_of_lt_of_eq (zy.1 h) (by decide+kernel))
theorem yR:Con Tryz.prog 220 false [.pt 10000000 0] [.own 0 [.sl l.length (qk l),.v (.int .i64 i),.v (.int .i64 h)]] (J3 l fun r=>∃x:ExV,x.ok=true∧r=.ag [.v (.bool (x).s),.sl (lim (x).m).length (qc (lim (x).m)),.v (.int .i64 (x).e)]):=by
 refine Con.curF (Q:=fun r=>∃x:ExV,x.ok=true∧qE (rhp [] []) 6 r=.ag [.v (.bool (x).s),.sl (lim (x).m).length (qc (lim (x).m)),.v (.int .i64 (x).e)]) l i h ?_ fun _ h=>h
 refine Con.of_aw Tryz.func220 rfl Tryz.ntmps220 (by simp) (by simp) (by simp) (W.sound ?_)
 show @W Tryz.prog 33 ⟨_⟩ ⟨fun x σ=>@qR _ _ _ ⟨_⟩ _ ⟨_⟩ x σ⟩ _ _
 simp(disch:=omega)only[go_sem]
 refine qr (Ya l hl i h hi) ?_
 rintro r i1 h1 hi1 ⟨s,m,hm,rfl⟩
 simp(disch:=omega)only[go_sem]
 have hx:=qB (m:=m) (B:=1600) hm
 refine qr (qL l hl i1 h1 hi1 3 (by omega)) ?_
 rintro r i2 h2 hi2 ⟨b,rfl⟩
 simp(disch:=omega)only[go_sem]
 have ww:∀(s:Bool) (m:Nat),bl m≤1600→zO (s&&decide (m≠0)) (lim m)=true:=fun s m hm=>QK (aK9 hm) (by intro h;simp[h])
 cases b
 ·simp(disch:=omega)only[go_sem]
  refine qr (qH l hl i2 h2 hi2 24 (by omega)) ?_
  rintro r i3 h3 hi3 ⟨k,hk,rfl⟩
  simp(disch:=omega)only[go_sem]
  have hk2:=hk.2 (by omega)
  refine qr (qL l hl i3 h3 hi3 6 (by omega)) ?_
  rintro r i4 h4 hi4 ⟨b,rfl⟩
  simp(disch:=omega)only[go_sem]
  cases b
  ·simp(disch:=omega)only[go_sem]
   refine qa (yF ⟨s&&decide (m≠0),m,k-12⟩ (ww s m hm) (by show-12000≤k-12∧k-12≤12000;omega)) ?_
   simp(disch:=omega)only[go_sem]
   have ok:=aeY ⟨s&&decide (m≠0),m,k-12⟩
   generalize ExV.tel ⟨s&&decide (m≠0),m,k-12⟩=y at*
   cases hf:ExV.fit ⟨s&&decide (m≠0),m,k-12⟩
   ·simp(disch:=omega)only[go_sem,hf]
    refine qM (i4) (h4) ⟨ex0,aas,by simp(disch:=omega)only[go_sem];exact YZ⟩
   ·simp(disch:=omega)only[go_sem,hf]
    refine qM (i4) (h4) ⟨y,ok,by simp(disch:=omega)only[go_sem]⟩
  ·simp(disch:=omega)only[go_sem]
   refine j0 (zE l hl i4 h4 hi4 [0, -60,60, -1074,900, -2990,2990, -100] (by simp) (by simp)) ?_
   rintro r i5 h5 hi5 ⟨x,hx,rfl⟩
   have hx_b: -3000≤x∧x≤3000:=by
    simp only[List.mem_cons,List.not_mem_nil,or_false]at hx
    omega
   clear hx
   simp(disch:=omega)only[go_sem]
   refine qa (yF ⟨s&&decide (m≠0),m,x⟩ (ww s m hm) (by show-12000≤x∧x≤12000;omega)) ?_
   simp(disch:=omega)only[go_sem]
   have ok:=aeY ⟨s&&decide (m≠0),m,x⟩
   generalize ExV.tel ⟨s&&decide (m≠0),m,x⟩=y at*
   cases hf:ExV.fit ⟨s&&decide (m≠0),m,x⟩
   ·simp(disch:=omega)only[go_sem,hf]
    refine qM (i5) (h5) ⟨ex0,aas,by simp(disch:=omega)only[go_sem];exact YZ⟩
   ·simp(disch:=omega)only[go_sem,hf]
    refine qM (i5) (h5) ⟨y,ok,by simp(disch:=omega)only[go_sem]⟩
 ·simp(disch:=omega)only[go_sem]
  refine qr (qH l hl i2 h2 hi2 40 (by omega)) ?_
  rintro r i3 h3 hi3 ⟨q,hq,rfl⟩
  simp(disch:=omega)only[go_sem]
  have hq2:=hq.2 (by omega)
  refine qa (QD (q-20) (by omega)) ?_
  simp(disch:=omega)only[go_sem]
  have wq:zO (decide (q-20<0)) (lim (q-20).natAbs)=true:=QK (by have:=qB (m:=(q-20).natAbs) (B:=6) (zy.2 (by omega));omega) (by intro h;simp;omega)
  refine qr (qH l hl i3 h3 hi3 24 (by omega)) ?_
  rintro r i4 h4 hi4 ⟨k,hk,rfl⟩
  simp(disch:=omega)only[go_sem]
  have hk2:=hk.2 (by omega)
  refine qr (qL l hl i4 h4 hi4 6 (by omega)) ?_
  rintro r i5 h5 hi5 ⟨b,rfl⟩
  simp(disch:=omega)only[go_sem]
  cases b
  ·simp(disch:=omega)only[go_sem]
   refine qa (yF ⟨decide (q-20<0),(q-20).natAbs,k-12⟩ (wq) (by show-12000≤k-12∧k-12≤12000;omega)) ?_
   simp(disch:=omega)only[go_sem]
   have ok:=aeY ⟨decide (q-20<0),(q-20).natAbs,k-12⟩
   generalize ExV.tel ⟨decide (q-20<0),(q-20).natAbs,k-12⟩=y at*
   cases hf:ExV.fit ⟨decide (q-20<0),(q-20).natAbs,k-12⟩
   ·simp(disch:=omega)only[go_sem,hf]
    refine qM (i5) (h5) ⟨ex0,aas,by simp(disch:=omega)only[go_sem];exact YZ⟩
   ·simp(disch:=omega)only[go_sem,hf]
    refine qM (i5) (h5) ⟨y,ok,by simp(disch:=omega)only[go_sem]⟩
  ·simp(disch:=omega)only[go_sem]
   refine j0 (zE l hl i5 h5 hi5 [0, -60,60, -1074,900, -2990,2990, -100] (by simp) (by simp)) ?_
   rintro r i6 h6 hi6 ⟨x,hx,rfl⟩
   have hx_b: -3000≤x∧x≤3000:=by
    simp only[List.mem_cons,List.not_mem_nil,or_false]at hx
    omega
   clear hx
   simp(disch:=omega)only[go_sem]
   refine qa (yF ⟨decide (q-20<0),(q-20).natAbs,x⟩ (wq) (by show-12000≤x∧x≤12000;omega)) ?_
   simp(disch:=omega)only[go_sem]
   have ok:=aeY ⟨decide (q-20<0),(q-20).natAbs,x⟩
   generalize ExV.tel ⟨decide (q-20<0),(q-20).natAbs,x⟩=y at*
   cases hf:ExV.fit ⟨decide (q-20<0),(q-20).natAbs,x⟩
   ·simp(disch:=omega)only[go_sem,hf]
    refine qM (i6) (h6) ⟨ex0,aas,by simp(disch:=omega)only[go_sem];exact YZ⟩
   ·simp(disch:=omega)only[go_sem,hf]
    refine qM (i6) (h6) ⟨y,ok,by simp(disch:=omega)only[go_sem]⟩
theorem aj3:Con Tryz.prog 154 false [.pt 10000000 0] [.own 0 [.sl l.length (qk l),.v (.int .i64 i),.v (.int .i64 h)]] (J3 l fun r=>∃d:DyV,d.xs.length≤200∧r=.ag d.cs):=by
 refine Con.of_aw Tryz.func154 rfl Tryz.ntmps154 (by simp) (by simp) (by simp) (W.sound ?_)
 show @W Tryz.prog 28 ⟨_⟩ ⟨fun x σ=>@qR _ _ _ ⟨_⟩ _ ⟨_⟩ x σ⟩ _ _
 simp(disch:=omega)only[go_sem]
 refine qr (yR l hl i h hi) ?_
 rintro r i1 h1 hi1 ⟨x,hx,rfl⟩
 simp(disch:=omega)only[go_sem]
 have lx:=(zW hx).2.2.1
 refine qr (qL l hl i1 h1 hi1 9 (by omega)) ?_
 rintro r i2 h2 hi2 ⟨b,rfl⟩
 simp(disch:=omega)only[go_sem]
 cases b
 ·simp(disch:=omega)only[go_sem]
  refine qM (i2) (h2) ⟨⟨x.s,lim x.m,x.e⟩,by show(lim x.m).length≤200;omega,rfl⟩
 ·simp(disch:=omega)only[go_sem]
  refine qr (qH l hl i2 h2 hi2 3 (by omega)) ?_
  rintro r i3 h3 hi3 ⟨q,hq,rfl⟩
  simp(disch:=omega)only[go_sem]
  by_cases c0:q=0
  ·simp(disch:=omega)only[go_sem,c0]
   refine j0 (zE l hl i3 h3 hi3 [-3001,3001,3000,4611686018427387904] (by simp) (by simp)) ?_
   rintro r i4 h4 hi4 ⟨y,hy,rfl⟩
   clear hy
   simp(disch:=omega)only[go_sem]
   refine qM (i4) (h4) ⟨⟨x.s,lim x.m,y⟩,by show(lim x.m).length≤200;omega,rfl⟩
  by_cases c1:q=1
  ·simp(disch:=omega)only[go_sem,c0,c1]
   refine qr (aj4 l hl i3 h3 hi3) ?_
   rintro r i4 h4 hi4 ⟨s,xs,hxs,rfl⟩
   simp(disch:=omega)only[go_sem]
   refine qM (i4) (h4) ⟨⟨s,xs,x.e⟩,hxs,rfl⟩
  simp(disch:=omega)only[go_sem,c0,c1]
  refine qM (i3) (h3) ⟨⟨!x.s,lim x.m,x.e⟩,by show(lim x.m).length≤200;omega,rfl⟩
end
theorem J9(x y:ExV)(hx:x.bd (-400000) 400000)(hy:y.bd (-400000) 400000):Con Tryz.prog 192 false [.ag [.v (.bool (x).s),.sl (lim (x).m).length (qc (lim (x).m)),.v (.int .i64 (x).e)],.ag [.v (.bool (y).s),.sl (lim (y).m).length (qc (lim (y).m)),.v (.int .i64 (y).e)]] [] (isA (.ag [.v (.bool ((x.plus y).can).s),.sl (lim ((x.plus y).can).m).length (qc (lim ((x.plus y).can).m)),.v (.int .i64 ((x.plus y).can).e)])):=by
 obtain⟨z1,a1,a2⟩:=hx
 obtain⟨z2,b1,b2⟩:=hy
 exact aqZ x.s x.m x.e y.s y.m y.e (by omega) (by omega) (by omega) (by omega) z1 z2
end Go.Ab
namespace Go.Ab
open Go
def z3:List AV:=[.v (.bool false),.v (.slice none 0 0),.v (.int .i64 0)]
def z6:List AV:=[.v (.bool false),.v (.slice none 0 0),.v (.int .i64 0),.v (.bool false),.v (.slice none 0 0),.v (.int .i64 0)]
section
variable {X:Type}{f:X→List AV}{z:Nat}{n:Nat}{zs:List AV}{ρ:Nat→Nat}{p:Nat→Prop}
theorem aeK(h:zK ρ zs=zs):zK ρ (zR n zs)=zR n zs:=by
 unfold zR
 induction n with
 |zero=>rfl
 |succ n ih=>
  rw[List.replicate_succ,List.flatten_cons]
  have:∀a b:List AV,zK ρ (a++b)=zK ρ a++zK ρ b:=fun a b=>by simp[qT]
  rw[this,h,ih]
theorem aeL(h:AllL p zs):AllL p (zR n zs):=by
 unfold zR
 induction n with
 |zero=>simp[AllL]
 |succ n ih=>rw[List.replicate_succ,List.flatten_cons];exact AllL.append h ih
theorem Yp:∀(ks a b:List AV) (o:Nat),o+ks.length≤a.length→wr (a++b) o ks=wr a o ks++b
 | [],a,b,o,_=>by simp[wr]
 |k::r,a,b,o,h=>by
  simp only[List.length_cons]at h
  rw[wr,wr,List.set_append_left _ _ (by omega),Yp r]
  rw[List.length_set];omega
theorem aBA(hz:∀x,(f x).length=z){x y:X}{L:List X}:wr (qm f (x::L)) 0 (f y)=qm f (y::L):=by
 rw[zl,zl,Yp _ _ _ _ (by rw[hz,hz];omega)]
 have:=Qi [] (f x) (f y) (by rw[hz,hz])
 rw[List.nil_append,List.nil_append]at this
 exact congrArg (· ++qm f L) this
theorem ae3(hz:∀x,(f x).length=z)(hs:zs.length=z){L:List X}{k:Nat}(x:X):wr (qm f L++zR (k+1) zs) (L.length*z) (f x)=qm f (L++[x])++zR k zs:=by
 unfold zR
 rw[List.replicate_succ,List.flatten_cons,←List.append_assoc]
 have h1:(qm f L++zs).length=(qm f L).length+z:=by simp[hs]
 have h2:=Qi (qm f L) zs (f x) (by rw[hz,hs])
 rw[y8 hz]at h2
 rw[Yp _ _ _ _ (by rw[h1,y8 hz,hz];exact Nat.le_refl _),h2,←QQ,zl,yt,List.append_nil]
theorem aEf:zK ρ (zR n z3)=zR n z3:=aeK rfl
theorem aEg:AllL p (zR n z3)=True:=eq_true (aeL (by simp[z3,AllL,AV.All]))
theorem akD:(zR n z3).length=n*3:=zk n z3
theorem aEc:zK ρ (zR n z6)=zR n z6:=aeK rfl
theorem aEe:AllL p (zR n z6)=True:=eq_true (aeL (by simp[z6,AllL,AV.All]))
theorem aEd:(zR n z6).length=n*6:=zk n z6
theorem aEb:zR 0 zs=[]:=by simp[zR]
theorem afk{L:List ExV}{k:Nat}{x:ExV}:wr (qm ExV.cs L++zR (k+1) z3) (L.length*3) [.v (.bool x.s),.sl (lim x.m).length (qc (lim x.m)),.v (.int .i64 x.e)]=qm ExV.cs (L++[x])++zR k z3:=ae3 Jf rfl x
theorem aBI{a b:List AV}:zK ρ (a++b)=zK ρ a++zK ρ b:=by simp[qT]
theorem aD2{a b:List AV}:AllL p (a++b)=(AllL p a∧AllL p b):=propext ⟨fun h=>by
 induction a with
 |nil=>exact⟨by simp[AllL],h⟩
 |cons x r ih=>exact⟨⟨h.1,(ih h.2).1⟩,(ih h.2).2⟩,fun h=>AllL.append h.1 h.2⟩
end
attribute [go_sem] aEf aEg akD aEc aEe aEd aBI aD2
end Go.Ab
namespace Go.Ab
open Go Go.Proofs
theorem aqW(n:Nat)(hn:n≤4):Con Tryz.prog 212 false [.v (.int .i64 n)] [] (fun r hs bs=>r=.ag [.v (.int .i64 n),.rf 0 0 (n*n)]∧hs=[.own 3 (zR (n*n) z3)]):=by
 have hq:=yn hn
 have hz:((n:Int)*n).toNat=n*n:=by rw[←Int.natCast_mul];rfl
 have hz2:(n:Int)*n=((n*n:Nat):Int):=(Int.natCast_mul n n).symm
 refine Con.of_aw Tryz.func212 rfl Tryz.ntmps212 (by simp) (by simp) (by simp) (W.sound ?_)
 show @W Tryz.prog 9 ⟨_⟩ ⟨fun x σ=>@qR _ _ _ ⟨_⟩ _ ⟨_⟩ x σ⟩ _ _
 simp(disch:=omega)only[go_sem]
 rw[hz]
 refine⟨by rw[hz2];omega,qg [(0,90000000)] [.own 3 (zR (n*n) z3)] [] [.ag [.v (.int .i64 n),.rf 0 0 (n*n)]] rfl (by simp(disch:=omega)only[go_sem]) (by simp(disch:=omega)only[go_sem,aEf,aEg];rfl) (by simp) (by simp) ⟨rfl,rfl⟩⟩
section
variable (l:List UInt8)(hl:l.length≤9223372036854775807)(i h:Int)(hi:0≤i∧i≤l.length)
include hl hi
theorem aej:Con Tryz.prog 162 false [.pt 10000000 0] [.own 0 [.sl l.length (qk l),.v (.int .i64 i),.v (.int .i64 h)]] (J3 l fun r=>∃x:ExV,x.ok=true∧r=.ag [.v (.bool (x).s),.sl (lim (x).m).length (qc (lim (x).m)),.v (.int .i64 (x).e)]):=by
 refine Con.of_aw Tryz.func162 rfl Tryz.ntmps162 (by simp) (by simp) (by simp) (W.sound ?_)
 show @W Tryz.prog 11 ⟨_⟩ ⟨fun x σ=>@qR _ _ _ ⟨_⟩ _ ⟨_⟩ x σ⟩ _ _
 simp(disch:=omega)only[go_sem]
 refine qr (qH l hl i h hi 17 (by omega)) ?_
 rintro r i1 h1 hi1 ⟨k,hk,rfl⟩
 simp(disch:=omega)only[go_sem]
 have hk2:=hk.2 (by omega)
 refine qa (QD (k-8) (by omega)) ?_
 simp(disch:=omega)only[go_sem]
 refine qr (qH l hl i1 h1 hi1 4 (by omega)) ?_
 rintro r i2 h2 hi2 ⟨q,hq,rfl⟩
 simp(disch:=omega)only[go_sem]
 have hq2:=hq.2 (by omega)
 have b6:bl (k-8).natAbs≤6:=zy.2 (by omega)
 have cf:=jY (decide (k-8<0)) (k-8).natAbs (0-q) (by omega) (by omega)
 have hf:(ExV.mk (decide (k-8<0)) (k-8).natAbs (0-q)).can.ok=true:=by
  rw[aeE]
  show jP (k-8).natAbs (0-q)=true
  exact aau (by omega) (by omega)
 have hc:ExV.mk (oS (decide (k-8<0)) (k-8).natAbs) (oM (k-8).natAbs) (oE (k-8).natAbs (0-q))=(ExV.mk (decide (k-8<0)) (k-8).natAbs (0-q)).can:=rfl
 rw[←hc]at hf
 generalize oS (decide (k-8<0)) (k-8).natAbs=S at*
 generalize oM (k-8).natAbs=M at*
 generalize oE (k-8).natAbs (0-q)=E at*
 refine qa (cf) ?_
 simp(disch:=omega)only[go_sem]
 refine qM (i2) (h2) ⟨⟨S,M,E⟩,hf,rfl⟩
theorem ajZ(n:Nat)(hn:n≤4):Con Tryz.prog 161 false [.pt 10000000 0,.v (.int .i64 n)] [.own 0 [.sl l.length (qk l),.v (.int .i64 i),.v (.int .i64 h)]] (fun r hs bs=>(∃L:List ExV,L.length=n*n∧(∀x∈L,x.ok=true)∧r=.ag [.v (.int .i64 n),.rf 0 0 (n*n)]∧hs=[.own 3 (qm ExV.cs L)])∧∃i h:Int,(0≤i∧i≤l.length)∧bs=[.own 0 [.sl l.length (qk l),.v (.int .i64 i),.v (.int .i64 h)]]):=by
 have hq:=yn hn
 refine Con.of_aw Tryz.func161 rfl Tryz.ntmps161 (by simp) (by simp) (by simp) (W.sound ?_)
 show @W Tryz.prog 31 ⟨_⟩ ⟨fun x σ=>@qR _ _ _ ⟨_⟩ _ ⟨_⟩ x σ⟩ _ _
 simp(disch:=omega)only[go_sem]
 refine qW (aqW n hn) (by simp(disch:=omega)only[go_sem]) ?_
 rintro r hs ⟨rfl,rfl⟩
 refine⟨by simp[qO];simp(disch:=omega)only[go_sem],?_⟩
 simp(disch:=omega)only[go_sem]
 refine qj (fun x:List ExV×Int×Int=>[(0,.pt 10000000 0),(4,.pt 4 0),(5,.pt 5 0),(6,.v (.int .i64 x.1.length))])
  (fun x=>[(3,.own 3 (qm ExV.cs x.1++zR (n*n-x.1.length) z3)),(4,.own 0 [.v (.int .i64 0),.v (.slice none 0 0)]),(5,.own 0 [.v (.int .i64 n),.rf 3 0 (n*n)]),(10000000,.own 0 [.sl l.length (qk l),.v (.int .i64 x.2.1),.v (.int .i64 x.2.2)])])
  (fun x=>x.1.length≤n*n∧(∀y∈x.1,y.ok=true)∧(0≤x.2.1∧x.2.1≤l.length)) (fun x=>n*n-x.1.length) ([],i,h) ⟨by simp,by simp,hi⟩
  (Le.lst [(3,100000000),(4,60000000),(5,70000000)] _ _ rfl (by simp(disch:=omega)only[go_sem]) (by simp(disch:=omega)only[go_sem,Jd,List.nil_append];try rfl)) ?_
 rintro⟨L,i2,h2⟩ ⟨hL,hok,hi2⟩
 dsimp only at hL hok hi2 ⊢
 simp(disch:=omega)only[go_sem]
 refine qe (fun c1=>?_) (fun c1=>?_)
 ·obtain⟨k,hk⟩:∃k,n*n-L.length=k+1:=⟨n*n-L.length-1,by omega⟩
  rw[hk]
  simp(disch:=omega)only[go_sem,c1]
  refine qr (qL l hl i2 h2 hi2 25 (by omega)) ?_
  rintro r i3 h3 hi3 ⟨b,rfl⟩
  simp(disch:=omega)only[go_sem]
  cases b
  ·simp(disch:=omega)only[go_sem]
   refine qp rfl [⟨0,[],[]⟩,⟨1,[],[]⟩,⟨2,[1],[]⟩,⟨3,[1],[]⟩,⟨4,[1],[]⟩,⟨5,[],[]⟩,⟨6,[],[]⟩] (by kernel_rfl) ?_
   simp(disch:=omega)only[go_sem]
   refine qr (aej l hl i3 h3 hi3) ?_
   rintro r i4 h4 hi4 ⟨x,hx,rfl⟩
   simp(disch:=omega)only[go_sem]
   have hl3:(L++[x]).length=L.length+1:=by simp
   rw[afk]
   refine⟨by omega,by rw[List.length_append,YY,akD];omega,qb (L++[x],i4,h4) [] ⟨by dsimp only;omega,fun y hy=>?_,hi4⟩ (by show n*n-(L++[x]).length<k+1;omega) rfl (by simp(disch:=omega)only[go_sem,hl3];try omega) (by simp(disch:=omega)only[go_sem,hl3,show n*n-(L.length+1)=k by omega])⟩
   rcases List.mem_append.1 hy with hy|hy
   ·exact hok y hy
   ·rw[List.mem_singleton.1 hy];exact hx
  ·simp(disch:=omega)only[go_sem]
   refine qp rfl [⟨0,[],[]⟩,⟨1,[],[]⟩,⟨2,[1],[]⟩,⟨3,[1],[]⟩,⟨4,[1],[]⟩,⟨5,[],[]⟩,⟨6,[],[]⟩] (by kernel_rfl) ?_
   simp(disch:=omega)only[go_sem]
   refine qr (yR l hl i3 h3 hi3) ?_
   rintro r i4 h4 hi4 ⟨x,hx,rfl⟩
   simp(disch:=omega)only[go_sem]
   have hl3:(L++[x]).length=L.length+1:=by simp
   rw[afk]
   refine⟨by omega,by rw[List.length_append,YY,akD];omega,qb (L++[x],i4,h4) [] ⟨by dsimp only;omega,fun y hy=>?_,hi4⟩ (by show n*n-(L++[x]).length<k+1;omega) rfl (by simp(disch:=omega)only[go_sem,hl3];try omega) (by simp(disch:=omega)only[go_sem,hl3,show n*n-(L.length+1)=k by omega])⟩
   rcases List.mem_append.1 hy with hy|hy
   ·exact hok y hy
   ·rw[List.mem_singleton.1 hy];exact hx
 ·obtain hLn:L.length=n*n:=by omega
  simp(disch:=omega)only[go_sem,c1]
  refine qg [(0,3)] [.own 3 (qm ExV.cs L)] [.own 0 [.sl l.length (qk l),.v (.int .i64 i2),.v (.int .i64 h2)]] [.ag [.v (.int .i64 n),.rf 0 0 (n*n)]] rfl (by simp(disch:=omega)only[go_sem]) (by simp(disch:=omega)only[go_sem,hLn,Nat.sub_self,aEb,List.append_nil]) (by simp) (by simp) ⟨⟨L,hLn,hok,rfl,rfl⟩,_,_,hi2,rfl⟩
theorem aqX:Con Tryz.prog 77 false [.pt 10000000 0] [.own 0 [.sl l.length (qk l),.v (.int .i64 i),.v (.int .i64 h)]] (J3 l fun r=>∃n:Nat,(1≤n∧n≤4)∧r=.v (.int .i64 n)):=by
 refine Con.of_aw Tryz.func77 rfl Tryz.ntmps77 (by simp) (by simp) (by simp) (W.sound ?_)
 show @W Tryz.prog 6 ⟨_⟩ ⟨fun x σ=>@qR _ _ _ ⟨_⟩ _ ⟨_⟩ x σ⟩ _ _
 simp(disch:=omega)only[go_sem]
 refine qr (qH l hl i h hi 4 (by omega)) ?_
 rintro r i1 h1 hi1 ⟨k,hk,rfl⟩
 simp(disch:=omega)only[go_sem]
 have hk2:=hk.2 (by omega)
 obtain⟨m,rfl⟩:=Int.eq_ofNat_of_zero_le hk.1
 refine qM (i1) (h1) ⟨m+1,by omega,by rw[show((m+1:Nat):Int)=1+(m:Int) by omega];rfl⟩
def bfc(r:AV):Prop:=∃(n:Int) (l:List DyV),l.length≤16∧(∀d∈l,d.xs.length≤200)∧r=.ag [.v (.int .i64 n),.sl l.length (qm DyV.cs l)]
omit hl hi in
omit hl hi in
def beS(n:Nat)(r:AV)(hs:List Ob):Prop:=∃(k:Int) (M:List DyV) (o m:Nat),M.length=o+m∧o≤1∧M.length=n*n∧(∀d∈M,d.xs.length≤200)∧r=.ag [.v (.int .i64 k),.rf 0 (o*3) m]∧hs=[.own 3 (qm DyV.cs M)]
end
end Go.Ab
namespace Go.Ab
open Go Go.Proofs
/-! ### Minors and determinants-/
def mnC(n:Nat)(l:List ExV)(r c i:Nat):Nat→List ExV
 |0=>[]
 |j+1=>if i≠r∧j≠c then mnC n l r c i j++[l.getD (i*n+j) ex0]else mnC n l r c i j
def mnR(n:Nat)(l:List ExV)(r c:Nat):Nat→List ExV
 |0=>[]
 |i+1=>mnR n l r c i++mnC n l r c i n
def ExV.sgn(x:ExV)(k:Nat):ExV:=if k % 2=1 then x.neg else x
def bce:Nat→List ExV→ExV
 |0,_=>ex1
 |n+1,l=>(List.range (n+1)).foldl (fun s j=>s.plus (((l.getD (0*(n+1)+j) ex0).times (bce n (mnR (n+1) l 0 j (n+1)))).sgn j)) ex0
end Go.Ab
namespace Go.Ab
open Go Go.Proofs
theorem Q4(x y:ExV)(hx:x.ok=true)(hy:y.ok=true):Con Tryz.prog 132 true [.ag [.v (.bool (x).s),.sl (lim (x).m).length (qc (lim (x).m)),.v (.int .i64 (x).e)],.ag [.v (.bool (y).s),.sl (lim (y).m).length (qc (lim (y).m)),.v (.int .i64 (y).e)]] [] (isA (.v (.int .i64 (zr (x.val 3000) (y.val 3000))))):=by
 obtain⟨a1,a2,a3,a4,a5⟩:=zW hx
 obtain⟨b1,b2,b3,b4,b5⟩:=zW hy
 exact aaC 3000 x.s x.m x.e y.s y.m y.e (by omega) (by omega) (by omega) (by omega) (by omega) (by omega) (fun h=>(a4 h).1) (fun h=>(b4 h).1)
theorem arl(v:IvV)(h:aa1 v):Con Tryz.prog 139 true [.ag [.v (.bool (v).lo.s),.sl (v).lo.xs.length (qc (v).lo.xs),.v (.int .i64 (v).lo.e),.v (.bool (v).hi.s),.sl (v).hi.xs.length (qc (v).hi.xs),.v (.int .i64 (v).hi.e)]] [] (isA (.v (.bool (ivB v)))):=by
 unfold ivB
 have k1:=jD v.lo.s v.lo.xs v.lo.e (by have:=h.1;omega)
 have k2:=jD v.hi.s v.hi.xs v.hi.e (by have:=h.2;omega)
 rw[show dyB v.lo.s v.lo.xs v.lo.e=v.lo.ok from rfl]at k1
 rw[show dyB v.hi.s v.hi.xs v.hi.e=v.hi.ok from rfl]at k2
 cases h1:v.lo.ok
 ·rw[h1]at k1
  refine Con.of_aw Tryz.func139 rfl Tryz.ntmps139 (by simp) (by simp) (by simp) (W.sound ?_)
  show @W Tryz.prog 19 ⟨_⟩ ⟨fun x σ=>@qR _ _ _ ⟨_⟩ _ ⟨_⟩ x σ⟩ _ _
  simp(disch:=omega)only[go_sem]
  refine qh (k1) ?_
  simp(disch:=omega)only[go_sem]
  exact qu
 cases h2:v.hi.ok
 ·rw[h1]at k1
  rw[h2]at k2
  refine Con.of_aw Tryz.func139 rfl Tryz.ntmps139 (by simp) (by simp) (by simp) (W.sound ?_)
  show @W Tryz.prog 19 ⟨_⟩ ⟨fun x σ=>@qR _ _ _ ⟨_⟩ _ ⟨_⟩ x σ⟩ _ _
  simp(disch:=omega)only[go_sem]
  refine qh (k1) ?_
  simp(disch:=omega)only[go_sem]
  refine qh (k2) ?_
  simp(disch:=omega)only[go_sem]
  exact qu
 ·rw[h1]at k1
  rw[h2]at k2
  obtain⟨lo,hi⟩:=v
  dsimp only at h1 h2 k1 k2 ⊢
  obtain⟨e1,o1⟩:=aar h1
  obtain⟨e2,o2⟩:=aar h2
  generalize lo.ex=x at*
  generalize hi.ex=y at*
  subst e1 e2
  unfold ExV.dyv at*
  refine Con.of_aw Tryz.func139 rfl Tryz.ntmps139 (by simp) (by simp) (by simp) (W.sound ?_)
  show @W Tryz.prog 19 ⟨_⟩ ⟨fun x σ=>@qR _ _ _ ⟨_⟩ _ ⟨_⟩ x σ⟩ _ _
  simp(disch:=omega)only[go_sem]
  refine qh (k1) ?_
  simp(disch:=omega)only[go_sem]
  refine qh (k2) ?_
  simp(disch:=omega)only[go_sem]
  refine qh (Q4 x y o1 o2) ?_
  simp(disch:=omega)only[go_sem]
  refine qx (by simp(disch:=omega)only[go_sem]) (by simp(disch:=omega)only[go_sem]) ⟨?_,rfl,rfl⟩
  show AV.v (.bool _)=AV.v (.bool (true&&(true&&decide (ExV.val 3000 x≤ExV.val 3000 y))))
  rw[Bool.true_and,Bool.true_and]
  congr 2
  exact decide_eq_decide.2 (Qh _ _).1
def Zo(x y:ExV):ExV:=if x.val 3000≤y.val 3000 then x else y
def Zn(x y:ExV):ExV:=if y.val 3000≤x.val 3000 then x else y
theorem Q3(x y:ExV)(hx:x.ok=true)(hy:y.ok=true):Con Tryz.prog 238 false [.ag [.v (.bool (x).s),.sl (lim (x).m).length (qc (lim (x).m)),.v (.int .i64 (x).e)],.ag [.v (.bool (y).s),.sl (lim (y).m).length (qc (lim (y).m)),.v (.int .i64 (y).e)]] [] (isA (.ag [.v (.bool (Zo x y).s),.sl (lim (Zo x y).m).length (qc (lim (Zo x y).m)),.v (.int .i64 (Zo x y).e)])):=by
 refine Con.frzA ?_
 have e1:decide (zr (x.val 3000) (y.val 3000)≤0)=decide (x.val 3000≤y.val 3000):=decide_eq_decide.2 (Qh _ _).1
 unfold Zo
 refine Con.of_w (rs:=[.cell 4 40]) Tryz.func238 rfl Tryz.ntmps238 rfl ?_
 simp(disch:=omega)only[go_sem]
 refine qh (Q4 x y hx hy) ?_
 simp(disch:=omega)only[go_sem]
 by_cases h:x.val 3000≤y.val 3000
 ·simp(disch:=omega)only[go_sem,e1,decide_eq_true h]
  rw[if_pos h]
  exact ql
 ·simp(disch:=omega)only[go_sem,e1,decide_eq_false h]
  rw[if_neg h]
  exact ql
theorem Q2(x y:ExV)(hx:x.ok=true)(hy:y.ok=true):Con Tryz.prog 239 false [.ag [.v (.bool (x).s),.sl (lim (x).m).length (qc (lim (x).m)),.v (.int .i64 (x).e)],.ag [.v (.bool (y).s),.sl (lim (y).m).length (qc (lim (y).m)),.v (.int .i64 (y).e)]] [] (isA (.ag [.v (.bool (Zn x y).s),.sl (lim (Zn x y).m).length (qc (lim (Zn x y).m)),.v (.int .i64 (Zn x y).e)])):=by
 refine Con.frzA ?_
 have e1:decide (0≤zr (x.val 3000) (y.val 3000))=decide (y.val 3000≤x.val 3000):=decide_eq_decide.2 (by unfold zr;split<;>(try split)<;>omega)
 unfold Zn
 refine Con.of_w (rs:=[.cell 4 40]) Tryz.func239 rfl Tryz.ntmps239 rfl ?_
 simp(disch:=omega)only[go_sem]
 refine qh (Q4 x y hx hy) ?_
 simp(disch:=omega)only[go_sem]
 by_cases h:y.val 3000≤x.val 3000
 ·simp(disch:=omega)only[go_sem,e1,decide_eq_true h]
  rw[if_pos h]
  exact ql
 ·simp(disch:=omega)only[go_sem,e1,decide_eq_false h]
  rw[if_neg h]
  exact ql
theorem aZP{x y:ExV}(hx:x.ok=true)(hy:y.ok=true):(Zo x y).ok=true∧(Zn x y).ok=true∧(Zo x y).val 3000≤(Zn x y).val 3000:=by
 unfold Zo Zn
 by_cases h:x.val 3000≤y.val 3000
 ·rw[if_pos h]
  by_cases h2:y.val 3000≤x.val 3000
  ·rw[if_pos h2];exact⟨hx,hx,Int.le_refl _⟩
  ·rw[if_neg h2];exact⟨hx,hy,h⟩
 ·rw[if_neg h,if_pos (by omega)];exact⟨hy,hx,by omega⟩
theorem aK4{x y:ExV}(hx:x.ok=true)(hy:y.ok=true):SpV.ok ⟨Zo x y,Zn x y⟩=true:=by
 obtain⟨h1,h2,h3⟩:=aZP hx hy
 unfold SpV.ok
 dsimp only
 rw[h1,h2,decide_eq_true h3];rfl
section
variable (l:List UInt8)(hl:l.length≤9223372036854775807)(i h:Int)(hi:0≤i∧i≤l.length)
include hl hi
theorem aj0:Con Tryz.prog 182 false [.pt 10000000 0] [.own 0 [.sl l.length (qk l),.v (.int .i64 i),.v (.int .i64 h)]] (J3 l fun r=>∃s:SpV,s.ok=true∧r=.ag [.v (.bool (s).lo.s),.sl (lim (s).lo.m).length (qc (lim (s).lo.m)),.v (.int .i64 (s).lo.e),.v (.bool (s).hi.s),.sl (lim (s).hi.m).length (qc (lim (s).hi.m)),.v (.int .i64 (s).hi.e)]):=by
 refine Con.of_aw Tryz.func182 rfl Tryz.ntmps182 (by simp) (by simp) (by simp) (W.sound ?_)
 show @W Tryz.prog 29 ⟨_⟩ ⟨fun x σ=>@qR _ _ _ ⟨_⟩ _ ⟨_⟩ x σ⟩ _ _
 simp(disch:=omega)only[go_sem]
 refine qr (yR l hl i h hi) ?_
 rintro r i1 h1 hi1 ⟨x,hx,rfl⟩
 simp(disch:=omega)only[go_sem]
 refine qr (yR l hl i1 h1 hi1) ?_
 rintro r i2 h2 hi2 ⟨y,hy,rfl⟩
 simp(disch:=omega)only[go_sem]
 refine qr (qL l hl i2 h2 hi2 3 (by omega)) ?_
 rintro r i3 h3 hi3 ⟨b,rfl⟩
 simp(disch:=omega)only[go_sem]
 cases b
 ·simp(disch:=omega)only[go_sem]
  refine qp rfl [⟨0,[],[]⟩,⟨1,[0],[]⟩,⟨3,[0,1],[]⟩,⟨4,[0,1,3],[]⟩,⟨2,[3,4],[]⟩,⟨5,[],[]⟩,⟨6,[],[]⟩,⟨7,[],[]⟩] (by kernel_rfl) ?_
  simp(disch:=omega)only[go_sem]
  refine qa (Q3 x y hx hy) ?_
  simp(disch:=omega)only[go_sem]
  refine qa (Q2 x y hx hy) ?_
  simp(disch:=omega)only[go_sem]
  have ok:=aK4 hx hy
  generalize Zo x y=a at*
  generalize Zn x y=b at*
  refine qM (i3) (h3) ⟨⟨a,b⟩,ok,rfl⟩
 ·simp(disch:=omega)only[go_sem]
  refine qp rfl [⟨0,[],[]⟩,⟨2,[0],[]⟩,⟨1,[0],[]⟩,⟨3,[0],[]⟩,⟨4,[0],[]⟩,⟨5,[0],[]⟩,⟨6,[],[]⟩,⟨7,[],[]⟩] (by kernel_rfl) ?_
  simp(disch:=omega)only[go_sem]
  have c3:=QD 1 (by omega)
  rw[show(1:Int).natAbs=1 from rfl,show decide ((1:Int)<0)=false from rfl]at c3
  refine qa (c3) ?_
  simp(disch:=omega)only[go_sem]
  refine qr (qH l hl i3 h3 hi3 9 (by omega)) ?_
  rintro r i4 h4 hi4 ⟨k,hk,rfl⟩
  simp(disch:=omega)only[go_sem]
  have hk2:=hk.2 (by omega)
  have bx:=Qr hx
  have b1:ExV.bd (-3000) 4600 ⟨false,1,k-6⟩:=⟨fun _=>rfl,by show-3000≤k-6;omega,by show(bl 1:Int)+(k-6)≤4600;have:bl 1≤1:=zy.2 (by decide);omega⟩
  refine qa (J9 x ⟨false,1,k-6⟩ (bx.mono (by omega) (by omega)) (b1.mono (by omega) (by omega))) ?_
  simp(disch:=omega)only[go_sem]
  have bp:=ExV.plus_bd bx b1
  have hf:=aeE (x.plus ⟨false,1,k-6⟩)
  have lp:(lim (x.plus ⟨false,1,k-6⟩).can.m).length≤1000:=by
   have h3:=qB (m:=(x.plus ⟨false,1,k-6⟩).m) (B:=8000) (by have:=bp.2.1;have:=bp.2.2;omega)
   have h4:(lim (x.plus ⟨false,1,k-6⟩).can.m).length≤(lim (x.plus ⟨false,1,k-6⟩).m).length:=ye (apn _)
   omega
  generalize (x.plus ⟨false,1,k-6⟩).can=z at*
  have kz:=jD z.s (lim z.m) z.e (by omega)
  rw[show dyB z.s (lim z.m) z.e=z.ok from rfl]at kz
  refine qh (kz) ?_
  simp(disch:=omega)only[go_sem]
  cases hz:z.ok
  ·simp(disch:=omega)only[go_sem,hz]
   refine qp rfl [⟨0,[],[]⟩,⟨1,[0],[]⟩,⟨3,[0,1],[]⟩,⟨4,[0,1,3],[]⟩,⟨2,[3,4],[]⟩,⟨5,[],[]⟩,⟨6,[],[]⟩,⟨7,[],[]⟩] (by kernel_rfl) ?_
   simp(disch:=omega)only[go_sem]
   refine qa (Q3 x x hx hx) ?_
   simp(disch:=omega)only[go_sem]
   refine qa (Q2 x x hx hx) ?_
   simp(disch:=omega)only[go_sem]
   have ok:=aK4 hx hx
   generalize Zo x x=a at*
   generalize Zn x x=b at*
   refine qM (i4) (h4) ⟨⟨a,b⟩,ok,rfl⟩
  ·simp(disch:=omega)only[go_sem,hz]
   refine qp rfl [⟨0,[],[]⟩,⟨1,[0],[]⟩,⟨3,[0,1],[]⟩,⟨4,[0,1,3],[]⟩,⟨2,[3,4],[]⟩,⟨5,[],[]⟩,⟨6,[],[]⟩,⟨7,[],[]⟩] (by kernel_rfl) ?_
   simp(disch:=omega)only[go_sem]
   refine qa (Q3 x z hx hz) ?_
   simp(disch:=omega)only[go_sem]
   refine qa (Q2 x z hx hz) ?_
   simp(disch:=omega)only[go_sem]
   have ok:=aK4 hx hz
   generalize Zo x z=a at*
   generalize Zn x z=b at*
   refine qM (i4) (h4) ⟨⟨a,b⟩,ok,rfl⟩
theorem aj1:Con Tryz.prog 101 false [.pt 10000000 0] [.own 0 [.sl l.length (qk l),.v (.int .i64 i),.v (.int .i64 h)]] (J3 l fun r=>∃v:IvV,aa1 v∧r=.ag v.cs):=by
 refine Con.of_aw Tryz.func101 rfl Tryz.ntmps101 (by simp) (by simp) (by simp) (W.sound ?_)
 show @W Tryz.prog 19 ⟨_⟩ ⟨fun x σ=>@qR _ _ _ ⟨_⟩ _ ⟨_⟩ x σ⟩ _ _
 simp(disch:=omega)only[go_sem]
 refine qr (aj0 l hl i h hi) ?_
 rintro r i1 h1 hi1 ⟨s,hs,rfl⟩
 simp(disch:=omega)only[go_sem]
 have l6:=apK hs
 refine qr (qL l hl i1 h1 hi1 10 (by omega)) ?_
 rintro r i2 h2 hi2 ⟨b,rfl⟩
 simp(disch:=omega)only[go_sem]
 cases b
 ·simp(disch:=omega)only[go_sem]
  refine qM (i2) (h2) ⟨s.iv,l6,rfl⟩
 ·simp(disch:=omega)only[go_sem]
  refine qr (qL l hl i2 h2 hi2 2 (by omega)) ?_
  rintro r i3 h3 hi3 ⟨b,rfl⟩
  simp(disch:=omega)only[go_sem]
  cases b
  ·simp(disch:=omega)only[go_sem]
   refine qr (aj3 l hl i3 h3 hi3) ?_
   rintro r i4 h4 hi4 ⟨⟨S,xs,E⟩,hxs,rfl⟩
   simp(disch:=omega)only[go_sem]
   dsimp only at hxs
   unfold DyV.cs
   simp(disch:=omega)only[go_sem]
   refine qM (i4) (h4) ⟨⟨⟨S,xs,E⟩,s.hi.dyv⟩,⟨by show xs.length≤1000;omega,l6.2⟩,rfl⟩
  ·simp(disch:=omega)only[go_sem]
   refine qM (i3) (h3) ⟨⟨s.hi.dyv,s.lo.dyv⟩,⟨l6.2,l6.1⟩,rfl⟩
end
end Go.Ab
namespace Go.Ab
open Go Go.Proofs
/-! ### Rounding down and up-/
def rnF(s:Bool)(a b:Nat)(low mode:Int):FlV:=⟨flK s mode (rq s a b mode) low,s,bbz s mode (rq s a b mode) low,bbA s mode (rq s a b mode) low⟩
def upQ(a b:Nat):Nat:=if a % b=0 then a/b else a/b+1
def isN(F:FlV):Bool:=decide (F.k=0)||decide (F.k=1)
def rqB(s:Bool)(a b:Nat)(low mode:Int):Prop:=rq s a b mode≠0∧1024<(bl (rq s a b mode):Int)+low
end Go.Ab
namespace Go.Ab
def stk(A B:Nat):Nat:=2*(A/B)+(if A % B=0 then 0 else 1)
end Go.Ab
namespace Go.Ab
def rtB(a:Nat):Nat→Nat
 |0=>0
 |n+1=>if(n+1)*(n+1)≤a then n+1 else rtB a n
def rt(a:Nat):Nat:=rtB a a
end Go.Ab
namespace Go.Ab
open Go Go.Proofs
end Go.Ab
namespace Go.Ab
open Go Go.Proofs
/-! ### A root,rounded-/
def stR(A S:Nat):Nat:=rt (A/S)*4+(if rt (A/S)*rt (A/S)*S=A then 0 else if A*4<(2*rt (A/S)+1)*(2*rt (A/S)+1)*S then 1 else if A*4=(2*rt (A/S)+1)*(2*rt (A/S)+1)*S then 2 else 3)
end Go.Ab
namespace Go.Ab
open Go Go.Proofs
def sqT(m:Nat)(e:Int):Int:=((bl m:Int)+e+1)/2
def sqL(m:Nat)(e:Int):Int:=Ja (sqT m e)
def sqA(m:Nat)(e low:Int):Nat:=stR (ovA m (e-2*low)) (2^(-(e-2*low)).toNat)
def sqV(k:Int)(s:Bool)(m e mode:Int):FlV:=
 if k=3∨k=0 then⟨k,s,m,e⟩else if s=true then⟨3,false,0,0⟩else if k=2 then⟨k,s,m,e⟩else
  ⟨flK false mode (rq false (sqA m.toNat e (sqL m.toNat e)) 4 mode) (sqL m.toNat e),false,bbz false mode (rq false (sqA m.toNat e (sqL m.toNat e)) 4 mode) (sqL m.toNat e),bbA false mode (rq false (sqA m.toNat e (sqL m.toNat e)) 4 mode) (sqL m.toNat e)⟩
def sqG(k:Int)(s:Bool)(m e mode:Int):Int:=
 if k=3∨k=0 then 0 else if s=true then 16 else if k=2 then 0 else
  bcd (sqT m.toNat e) (decide (sqA m.toNat e (sqL m.toNat e) % 4=0)) (rq false (sqA m.toNat e (sqL m.toNat e)) 4 mode) (sqL m.toNat e)
end Go.Ab
namespace Go.Ab
open Go Go.Proofs
def rtE(x:ExV)(low md:Int):ExV:=⟨false,rq false (sqA x.m x.e low) 4 md,low⟩
def bfd(n:Int):Bool:=decide (-3000≤n)&&decide (n≤3000)
end Go.Ab
namespace Go.Ab
open Go Go.Proofs
theorem ard(n e:Int)(hn: -9223372036854775808≤n∧n<9223372036854775808)(he: -12000≤e∧e≤12000):Con Tryz.prog 47 false [.v (.int .i64 n),.v (.int .i64 e)] [] (isA (.ag [.v (.bool ((ExV.mk (decide (n<0)) n.natAbs e).tel).s),.sl (lim ((ExV.mk (decide (n<0)) n.natAbs e).tel).m).length (qc (lim ((ExV.mk (decide (n<0)) n.natAbs e).tel).m)),.v (.int .i64 ((ExV.mk (decide (n<0)) n.natAbs e).tel).e)])):=by
 refine Con.frzA ?_
 have hw:zO (decide (n<0)) (lim n.natAbs)=true:=QK (by
  have:=qB (m:=n.natAbs) (B:=64) (zy.2 (by omega));omega) (by intro h;simp;omega)
 have c:=yF ⟨decide (n<0),n.natAbs,e⟩ hw he
 generalize ExV.tel ⟨decide (n<0),n.natAbs,e⟩=y at*
 generalize ExV.fit ⟨decide (n<0),n.natAbs,e⟩=b at*
 refine Con.of_w (rs:=[.cell 4 40]) Tryz.func47 rfl Tryz.ntmps47 rfl ?_
 simp(disch:=omega)only[go_sem]
 refine qa (Ze n hn) ?_
 simp(disch:=omega)only[go_sem]
 refine qa (c) ?_
 simp(disch:=omega)only[go_sem]
 exact ql
end Go.Ab
namespace Go.Ab
open Go Go.Proofs
def rkI:Bool→Nat
 |false=>0
 |true=>1
def rkH(x:ExV):Bool→List (Nat×Ob)
 |false=>[(3,.own 1 [.v (.slice none 0 0)])]
 |true=>[(3,.own 1 [.rf 5 0 1]),(5,.own 3 [.v (.bool x.s),.sl (lim x.m).length (qc (lim x.m)),.v (.int .i64 x.e)])]
def ex5:ExV:=⟨false,5,0⟩
theorem beA:matV 1 [ex5]:=⟨by omega,by omega,rfl,fun x hx=>by rw[List.mem_singleton.1 hx];decide+kernel⟩
end Go.Ab
namespace Go.Ab
open Go Go.Proofs
def bfe(M:List DyV):Prop:=M.length≤16∧∀d∈M,d.xs.length≤200
end Go.Ab
namespace Go.Ab
open Go Go.Proofs
end Go.Ab
namespace Go.Ab
open Go Go.Proofs
/-! ### Matrices that were told,or not-/
def be5(n N:Nat)(T:List ExV):Prop:=(N=n∧matV n T)∨(N=0∧T=[])
def be6(M:List DyV):Prop:=M.length≤16∧∀d∈M,d.xs.length≤200
end Go.Ab
namespace Go.Ab
/-! ### Determinants of integers-/
def sgI(k:Nat):Int:=if k % 2=1 then-1 else 1
def skp(r i:Nat):Nat:=if i<r then i else i+1
def akx(A:Nat→Nat→Int)(r c:Nat):Nat→Nat→Int:=fun i j=>A (skp r i) (skp c j)
def js:Nat→(Nat→Nat→Int)→Int
 |0,_=>1
 |n+1,A=>qD (fun j=>sgI j*(A 0 j*js n (akx A 0 j))) (n+1)
theorem ar7(A:Nat→Nat→Int):js 1 A=A 0 0:=by
 simp[js,qD,sgI]
theorem akB(A:Nat→Nat→Int):js 2 A=A 0 0*A 1 1-A 0 1*A 1 0:=by
 simp[js,qD,sgI,akx,skp];omega
theorem akA(A:Nat→Nat→Int):js 3 A=A 0 0*(A 1 1*A 2 2-A 1 2*A 2 1)-A 0 1*(A 1 0*A 2 2-A 1 2*A 2 0)+A 0 2*(A 1 0*A 2 1-A 1 1*A 2 0):=by
 rw[js]
 simp only[akB,qD,sgI,akx,skp]
 simp
 omega
theorem aFK(A:Nat→Nat→Int):js 4 A=(A 0 0*A 1 1-A 0 1*A 1 0)*(A 2 2*A 3 3-A 2 3*A 3 2)-(A 0 0*A 1 2-A 0 2*A 1 0)*(A 2 1*A 3 3-A 2 3*A 3 1)
  +(A 0 0*A 1 3-A 0 3*A 1 0)*(A 2 1*A 3 2-A 2 2*A 3 1)+(A 0 1*A 1 2-A 0 2*A 1 1)*(A 2 0*A 3 3-A 2 3*A 3 0)
  -(A 0 1*A 1 3-A 0 3*A 1 1)*(A 2 0*A 3 2-A 2 2*A 3 0)+(A 0 2*A 1 3-A 0 3*A 1 2)*(A 2 0*A 3 1-A 2 1*A 3 0):=by
 rw[js]
 simp only[akA,qD,sgI,akx,skp]
 simp
 grind
end Go.Ab
namespace Go.Ab
theorem aDi{n:Nat}(hn:n≤4)(A:Nat→Nat→Int):js n (fun i j=>A j i)=js n A:=by
 rcases(show n=0∨n=1∨n=2∨n=3∨n=4 by omega)with rfl|rfl|rfl|rfl|rfl
 ·rfl
 ·rw[ar7,ar7]
 ·rw[akB,akB];grind
 ·rw[akA,akA];grind
 ·rw[aFK,aFK];grind
theorem yE:∀{n:Nat} {A B:Nat→Nat→Int},(∀i j,i<n→j<n→A i j=B i j)→js n A=js n B
 |0,_,_,_=>rfl
 |n+1,A,B,h=>by
  rw[js,js]
  refine qK fun j hj=>?_
  rw[h 0 j (by omega) hj,yE (n:=n) (A:=akx A 0 j) (B:=akx B 0 j) fun i k hi hk=>?_]
  unfold akx skp
  exact h _ _ (by split<;>omega) (by split<;>omega)
def m2(A:Nat→Nat→Int)(r s c d:Nat):Int:=A r c*A s d-A r d*A s c
theorem aaw(A:Nat→Nat→Int):js 4 A=m2 A 0 1 0 1*m2 A 2 3 2 3-m2 A 0 1 0 2*m2 A 2 3 1 3+m2 A 0 1 0 3*m2 A 2 3 1 2+m2 A 0 1 1 2*m2 A 2 3 0 3-m2 A 0 1 1 3*m2 A 2 3 0 2+m2 A 0 1 2 3*m2 A 2 3 0 1:=aFK A
def yo(n:Nat)(A B:Nat→Nat→Int):Nat→Nat→Int:=fun i j=>qD (fun t=>A i t*B t j) n
theorem bb5(A B:Nat→Nat→Int)(i j:Nat):yo 4 A B i j=A i 0*B 0 j+A i 1*B 1 j+A i 2*B 2 j+A i 3*B 3 j:=by
 simp[yo,qD]
theorem bb6(A B:Nat→Nat→Int)(i j:Nat):yo 3 A B i j=A i 0*B 0 j+A i 1*B 1 j+A i 2*B 2 j:=by
 simp[yo,qD]
theorem bb7(A B:Nat→Nat→Int)(i j:Nat):yo 2 A B i j=A i 0*B 0 j+A i 1*B 1 j:=by
 simp[yo,qD]
theorem bb8(A B:Nat→Nat→Int)(i j:Nat):yo 1 A B i j=A i 0*B 0 j:=by
 simp[yo,qD]
theorem aPq(A B:Nat→Nat→Int)(r s c d:Nat):m2 (yo 4 A B) r s c d=m2 A r s 0 1*m2 B 0 1 c d+m2 A r s 0 2*m2 B 0 2 c d+m2 A r s 0 3*m2 B 0 3 c d+m2 A r s 1 2*m2 B 1 2 c d+m2 A r s 1 3*m2 B 1 3 c d+m2 A r s 2 3*m2 B 2 3 c d:=by
 simp only[m2,bb5]
 grind
def q4(B:Nat→Nat→Int)(p q r s:Nat):Int:=m2 B p q 0 1*m2 B r s 2 3-m2 B p q 0 2*m2 B r s 1 3+m2 B p q 0 3*m2 B r s 1 2+m2 B p q 1 2*m2 B r s 0 3-m2 B p q 1 3*m2 B r s 0 2+m2 B p q 2 3*m2 B r s 0 1
theorem Qp(B:Nat→Nat→Int)(p q s:Nat):q4 B p q p s=0:=by unfold q4 m2;grind
theorem aBK(B:Nat→Nat→Int)(p q r:Nat):q4 B p q r p=0:=by unfold q4 m2;grind
theorem aBJ(B:Nat→Nat→Int)(p q s:Nat):q4 B p q q s=0:=by unfold q4 m2;grind
theorem KZ(B:Nat→Nat→Int)(p q r:Nat):q4 B p q r q=0:=by unfold q4 m2;grind
theorem ben(B:Nat→Nat→Int):q4 B 0 1 2 3=js 4 B:=(aaw B).symm
theorem bem(B:Nat→Nat→Int):q4 B 0 2 1 3= -js 4 B:=by rw[aaw];unfold q4 m2;grind
theorem bel(B:Nat→Nat→Int):q4 B 0 3 1 2=js 4 B:=by rw[aaw];unfold q4 m2;grind
theorem bek(B:Nat→Nat→Int):q4 B 1 2 0 3=js 4 B:=by rw[aaw];unfold q4 m2;grind
theorem bej(B:Nat→Nat→Int):q4 B 1 3 0 2= -js 4 B:=by rw[aaw];unfold q4 m2;grind
theorem bei(B:Nat→Nat→Int):q4 B 2 3 0 1=js 4 B:=by rw[aaw];unfold q4 m2;grind
theorem aqB(A B:Nat→Nat→Int):js 4 (yo 4 A B)=m2 A 0 1 0 1*m2 A 2 3 0 1*q4 B 0 1 0 1+m2 A 0 1 0 1*m2 A 2 3 0 2*q4 B 0 1 0 2+m2 A 0 1 0 1*m2 A 2 3 0 3*q4 B 0 1 0 3+m2 A 0 1 0 1*m2 A 2 3 1 2*q4 B 0 1 1 2+m2 A 0 1 0 1*m2 A 2 3 1 3*q4 B 0 1 1 3+m2 A 0 1 0 1*m2 A 2 3 2 3*q4 B 0 1 2 3+m2 A 0 1 0 2*m2 A 2 3 0 1*q4 B 0 2 0 1+m2 A 0 1 0 2*m2 A 2 3 0 2*q4 B 0 2 0 2+m2 A 0 1 0 2*m2 A 2 3 0 3*q4 B 0 2 0 3+m2 A 0 1 0 2*m2 A 2 3 1 2*q4 B 0 2 1 2+m2 A 0 1 0 2*m2 A 2 3 1 3*q4 B 0 2 1 3+m2 A 0 1 0 2*m2 A 2 3 2 3*q4 B 0 2 2 3+m2 A 0 1 0 3*m2 A 2 3 0 1*q4 B 0 3 0 1+m2 A 0 1 0 3*m2 A 2 3 0 2*q4 B 0 3 0 2+m2 A 0 1 0 3*m2 A 2 3 0 3*q4 B 0 3 0 3+m2 A 0 1 0 3*m2 A 2 3 1 2*q4 B 0 3 1 2+m2 A 0 1 0 3*m2 A 2 3 1 3*q4 B 0 3 1 3+m2 A 0 1 0 3*m2 A 2 3 2 3*q4 B 0 3 2 3+m2 A 0 1 1 2*m2 A 2 3 0 1*q4 B 1 2 0 1+m2 A 0 1 1 2*m2 A 2 3 0 2*q4 B 1 2 0 2+m2 A 0 1 1 2*m2 A 2 3 0 3*q4 B 1 2 0 3+m2 A 0 1 1 2*m2 A 2 3 1 2*q4 B 1 2 1 2+m2 A 0 1 1 2*m2 A 2 3 1 3*q4 B 1 2 1 3+m2 A 0 1 1 2*m2 A 2 3 2 3*q4 B 1 2 2 3+m2 A 0 1 1 3*m2 A 2 3 0 1*q4 B 1 3 0 1+m2 A 0 1 1 3*m2 A 2 3 0 2*q4 B 1 3 0 2+m2 A 0 1 1 3*m2 A 2 3 0 3*q4 B 1 3 0 3+m2 A 0 1 1 3*m2 A 2 3 1 2*q4 B 1 3 1 2+m2 A 0 1 1 3*m2 A 2 3 1 3*q4 B 1 3 1 3+m2 A 0 1 1 3*m2 A 2 3 2 3*q4 B 1 3 2 3+m2 A 0 1 2 3*m2 A 2 3 0 1*q4 B 2 3 0 1+m2 A 0 1 2 3*m2 A 2 3 0 2*q4 B 2 3 0 2+m2 A 0 1 2 3*m2 A 2 3 0 3*q4 B 2 3 0 3+m2 A 0 1 2 3*m2 A 2 3 1 2*q4 B 2 3 1 2+m2 A 0 1 2 3*m2 A 2 3 1 3*q4 B 2 3 1 3+m2 A 0 1 2 3*m2 A 2 3 2 3*q4 B 2 3 2 3:=by
 rw[aaw]
 simp only[aPq]
 simp only[q4]
 grind
theorem aDk(A B:Nat→Nat→Int):js 4 (yo 4 A B)=js 4 A*js 4 B:=by
 rw[aqB]
 rw[Qp B 0 1 1,Qp B 0 1 2,Qp B 0 1 3,aBJ B 0 1 2,aBJ B 0 1 3,Qp B 0 2 1,Qp B 0 2 2,Qp B 0 2 3,KZ B 0 2 1,aBJ B 0 2 3,Qp B 0 3 1,Qp B 0 3 2,Qp B 0 3 3,KZ B 0 3 1,KZ B 0 3 2,aBK B 1 2 0,KZ B 1 2 0,Qp B 1 2 2,Qp B 1 2 3,aBJ B 1 2 3,aBK B 1 3 0,KZ B 1 3 0,Qp B 1 3 2,Qp B 1 3 3,KZ B 1 3 2,aBK B 2 3 0,KZ B 2 3 0,aBK B 2 3 1,KZ B 2 3 1,Qp B 2 3 3]
 rw[ben,bem,bel,bek,bej,bei,aaw A]
 grind
theorem Jh{n:Nat}(hn:n≤4)(A B:Nat→Nat→Int):js n (yo n A B)=js n A*js n B:=by
 rcases(show n=0∨n=1∨n=2∨n=3∨n=4 by omega)with rfl|rfl|rfl|rfl|rfl
 ·rfl
 ·rw[ar7,ar7,ar7,bb8]
 ·rw[akB,akB,akB];simp only[bb7];grind
 ·rw[akA,akA,akA];simp only[bb6];grind
 ·exact aDk A B
end Go.Ab
namespace Go.Ab
def aNv(n:Nat)(A:Nat→Nat→Int)(k j:Nat):Int:=sgI (k+j)*js (n-1) (akx A j k)
theorem aM8{n:Nat}(hn:n≤4)(A:Nat→Nat→Int){i j:Nat}(hi:i<n)(hj:j<n):yo n A (aNv n A) i j=if i=j then js n A else 0:=by
 rcases(show n=1∨n=2∨n=3∨n=4 by omega)with rfl|rfl|rfl|rfl
 ·obtain rfl:i=0:=by omega
  obtain rfl:j=0:=by omega
  rw[bb8,ar7,if_pos rfl]
  simp[aNv,sgI,js]
 ·simp only[bb7,aNv,akB,show 2-1=1 from rfl,ar7]
  rcases(show i=0∨i=1 by omega)with rfl|rfl<;>rcases(show j=0∨j=1 by omega)with rfl|rfl<;>(simp[sgI,akx,skp];try grind)
 ·simp only[bb6,aNv,akA,show 3-1=2 from rfl,akB]
  rcases(show i=0∨i=1∨i=2 by omega)with rfl|rfl|rfl<;>rcases(show j=0∨j=1∨j=2 by omega)with rfl|rfl|rfl<;>(simp[sgI,akx,skp];try grind)
 ·simp only[bb5,aNv,aFK,show 4-1=3 from rfl,akA]
  rcases(show i=0∨i=1∨i=2∨i=3 by omega)with rfl|rfl|rfl|rfl<;>rcases(show j=0∨j=1∨j=2∨j=3 by omega)with rfl|rfl|rfl|rfl<;>(simp[sgI,akx,skp];try grind)
end Go.Ab
namespace Go.Ab
open Go Go.Proofs
/-! ### What determinants are worth-/
end Go.Ab
namespace Go.Ab
open Go Go.Proofs
/-! ### Turned matrices-/
def beE(n:Nat)(l:List ExV):List ExV:=gl n (fun i j=>l.getD (j*n+i) ex0) (n*n)
end Go.Ab
namespace Go.Ab
open Go Go.Proofs
/-! ### Adjugates and minors-/
def beX(n:Nat)(l:List ExV)(a b:Nat):ExV:=(bce (n-1) (mnR n l b a n)).sgn (b+a)
def bfi(n:Nat)(l:List ExV):List ExV:=gl n (beX n l) (n*n)
end Go.Ab
namespace Go.Ab
open Go
section
variable {X:Type}{f:X→List AV}{z:Nat}
end
end Go.Ab
namespace Go.Ab
open Go Go.Proofs
section
variable (l:List UInt8)(hl:l.length≤9223372036854775807)(i h:Int)(hi:0≤i∧i≤l.length)
include hl hi
def beB(r:AV):Prop:=∃L:List DyV,L.length≤101∧(∀d∈L,d.xs.length≤200)∧r=.sl L.length (qm DyV.cs L)
end
end Go.Ab
namespace Go.Ab
open Go Go.Proofs
/-! ### Polynomials of a matrix-/
def bb4(n:Nat)(L:List ExV):Nat→List ExV
 |0=>gId n
 |k+1=>zv n (bb4 n L k) L
def bed(n:Nat)(L p:List ExV):Nat→List ExV
 |0=>jM n (gId n) ex0
 |k+1=>jr n (bed n L p k) (jM n (bb4 n L k) (p.getD k ex0))
end Go.Ab
namespace Go.Ab
def idI(i j:Nat):Int:=if i=j then 1 else 0
def bb3(n:Nat)(A:Nat→Nat→Int):Nat→Nat→Nat→Int
 |0=>idI
 |k+1=>yo n (bb3 n A k) A
def pm3(A:Nat→Nat→Int)(r:Nat):Int:=js 3 (akx A r r)
end Go.Ab
namespace Go.Ab
/-! ### Ranks-/
theorem ZJ{f:Nat→Int}{k:Nat}:∀{m:Nat},k≤m→(∀i,k≤i→f i=0)→qD f m=qD f k
 |0,h,_=>by
  obtain rfl:k=0:=by omega
  rfl
 |m+1,h,hz=>by
  by_cases e:k=m+1
  ·rw[e]
  ·rw[qD,ZJ (by omega) hz,hz m (by omega),Int.add_zero]
def ajf(n k:Nat)(A:Nat→Nat→Int):Prop:=∃(c:Int) (B C:Nat→Nat→Int),c≠0∧∀i j,i<n→j<n→c*A i j=qD (fun t=>B i t*C t j) k
theorem QN{n k:Nat}{A A':Nat→Nat→Int}(h:∀i j,i<n→j<n→A i j=A' i j):ajf n k A→ajf n k A'
 |⟨c,B,C,h0,h1⟩=>⟨c,B,C,h0,fun i j hi hj=>by rw[←h i j hi hj];exact h1 i j hi hj⟩
theorem KM{n k:Nat}{A:Nat→Nat→Int}:ajf n k A→ajf n k (fun i j=>A j i)
 |⟨c,B,C,h0,h1⟩=>⟨c,fun i t=>C t i,fun t j=>B j t,h0,fun i j hi hj=>by
  rw[h1 j i hj hi];exact qK fun t _=>Int.mul_comm _ _⟩
theorem Ys(n k:Nat)(f:Nat→Int)(g:Nat→Nat→Int)(h:Nat→Int):qD (fun s=>qD (fun t=>f t*g t s) k*h s) n=qD (fun t=>f t*qD (fun s=>g t s*h s) n) k:=by
 have e1:qD (fun s=>qD (fun t=>f t*g t s) k*h s) n=qD (fun s=>qD (fun t=>f t*(g t s*h s)) k) n:=
  qK fun s _=>by rw[←JL];exact qK fun t _=>Int.mul_assoc _ _ _
 have e2:qD (fun t=>f t*qD (fun s=>g t s*h s) n) k=qD (fun t=>qD (fun s=>f t*(g t s*h s)) n) k:=
  qK fun t _=>by rw[←yJ]
 rw[e1,e2,JM]
theorem aoG{n k:Nat}{A:Nat→Nat→Int}(D:Nat→Nat→Int):ajf n k A→ajf n k (yo n A D)
 |⟨c,B,C,h0,h1⟩=>⟨c,B,yo n C D,h0,fun i j hi hj=>by
  show c*qD (fun t=>A i t*D t j) n=qD (fun t=>B i t*qD (fun s=>C t s*D s j) n) k
  rw[←Ys,←yJ]
  exact qK fun s hs=>by rw[←h1 i s hi hs,Int.mul_assoc]⟩
theorem KN{n k:Nat}{A:Nat→Nat→Int}(D:Nat→Nat→Int):ajf n k A→ajf n k (yo n D A)
 |⟨c,B,C,h0,h1⟩=>⟨c,yo n D B,C,h0,fun i j hi hj=>by
  show c*qD (fun t=>D i t*A t j) n=qD (fun t=>qD (fun s=>D i s*B s t) n*C t j) k
  rw[Ys,←yJ]
  exact qK fun s hs=>by rw[←h1 s j hs hj,Int.mul_left_comm]⟩
def dgI(c:Int)(i j:Nat):Int:=if i=j then c else 0
theorem aPm{n:Nat}(c:Int)(A:Nat→Nat→Int){i j:Nat}(hi:i<n):yo n (dgI c) A i j=c*A i j:=by
 unfold yo
 rw[jy (j:=i) hi (fun t _ hne=>by unfold dgI;rw[if_neg (fun h=>hne h.symm),Int.zero_mul])]
 unfold dgI;rw[if_pos rfl]
theorem aTs{n:Nat}(hn:n≤4){c:Int}(hc:c≠0):js n (dgI c)≠0:=by
 rcases(show n=0∨n=1∨n=2∨n=3∨n=4 by omega)with rfl|rfl|rfl|rfl|rfl
 ·intro h;cases h
 ·rw[ar7];simp[dgI,hc]
 ·rw[akB];simp[dgI,hc]
 ·rw[akA];simp[dgI,hc]
 ·rw[aFK];simp[dgI,hc]
theorem aDj{n:Nat}(hn:n≤4)(h1:1≤n){A:Nat→Nat→Int}(h:∀i,A i (n-1)=0):js n A=0:=by
 rcases(show n=1∨n=2∨n=3∨n=4 by omega)with rfl|rfl|rfl|rfl
 ·have:=h 0
  rw[ar7];simpa using this
 ·have h:∀i,A i 1=0:=h
  rw[akB];simp[h]
 ·have h:∀i,A i 2=0:=h
  rw[akA];simp[h]
 ·have h:∀i,A i 3=0:=h
  rw[aFK];simp[h]
theorem aA9{n k:Nat}(hn:n≤4)(hk:k<n){A:Nat→Nat→Int}:ajf n k A→js n A=0
 |⟨c,B,C,h0,h1⟩=>by
  have e:js n (yo n (dgI c) A)=js n (yo n (fun i t=>if t<k then B i t else 0) C):=yE fun i j hi hj=>by
   rw[aPm c A hi,h1 i j hi hj]
   show _=qD (fun t=>(if t<k then B i t else 0)*C t j) n
   rw[ZJ (f:=fun t=>(if t<k then B i t else 0)*C t j) (k:=k) (by omega) (fun t ht=>by rw[if_neg (by omega),Int.zero_mul])]
   exact qK fun t ht=>by rw[if_pos ht]
  rw[Jh hn,Jh hn,aDj hn (by omega) (A:=fun i t=>if t<k then B i t else 0) (fun i=>if_neg (by omega)),Int.zero_mul]at e
  exact(Int.mul_eq_zero.1 e).resolve_left (aTs hn h0)
theorem aqz{r:Nat}(hr:r≤4){T:Nat→Nat→Int}(hd:∀t,t<r→T t t≠0)(hz:∀s t,t<s→s<r→T s t=0):js r T≠0:=by
 rcases(show r=0∨r=1∨r=2∨r=3∨r=4 by omega)with rfl|rfl|rfl|rfl|rfl
 ·intro h;cases h
 ·rw[ar7];exact hd 0 (by omega)
 ·rw[akB,hz 1 0 (by omega) (by omega)]
  simp[hd 0 (by omega),hd 1 (by omega)]
 ·rw[akA,hz 1 0 (by omega) (by omega),hz 2 0 (by omega) (by omega),hz 2 1 (by omega) (by omega)]
  simp[hd 0 (by omega),hd 1 (by omega),hd 2 (by omega)]
 ·rw[aFK,hz 1 0 (by omega) (by omega),hz 2 0 (by omega) (by omega),hz 2 1 (by omega) (by omega),hz 3 0 (by omega) (by omega),hz 3 1 (by omega) (by omega),hz 3 2 (by omega) (by omega)]
  simp[hd 0 (by omega),hd 1 (by omega),hd 2 (by omega),hd 3 (by omega)]
structure isRank(n:Nat)(A:Nat→Nat→Int)(r:Nat):Prop where
 le:r≤n
 up:ajf n r A
 low:∀k,ajf n k A→r≤k
 full:r=n→js n A≠0
theorem isRank.turn{n r s:Nat}{A:Nat→Nat→Int}(h:isRank n A r)(g:isRank n (fun i j=>A j i) s):s=r:=
 Nat.le_antisymm (g.low r (KM h.up)) (h.low s (KM g.up))
theorem isRank.congr{n r:Nat}{A B:Nat→Nat→Int}(h:isRank n A r)(e:∀i j,i<n→j<n→A i j=B i j):isRank n B r:=
 ⟨h.le,QN e h.up,fun k hk=>h.low k (QN (fun i j hi hj=>(e i j hi hj).symm) hk),fun hr=>by rw[←yE e];exact h.full hr⟩
theorem isRank.mul{n r s t:Nat}{A B:Nat→Nat→Int}(h:isRank n A r)(g:isRank n B s)(p:isRank n (yo n A B) t):t≤r∧t≤s:=
 ⟨p.low r (aoG B h.up),p.low s (KN A g.up)⟩
structure elim(n:Nat)(A C:Nat→Nat→Int)(r j:Nat):Prop where
 le:r≤n
 rj:r≤j
 u:∃U:Nat→Nat→Int,js n U≠0∧∀i k,i<n→k<n→C i k=yo n U A i k
 p:∃p:Nat→Nat,∀t,t<r→p t<j∧p t<n∧C t (p t)≠0∧∀s,t<s→s<n→C s (p t)=0
 z:∀i k,r≤i→i<n→k<j→k<n→C i k=0
theorem JZ(n:Nat)(A B C:Nat→Nat→Int)(i j:Nat):yo n (yo n A B) C i j=yo n A (yo n B C) i j:=
 Ys n n (fun t=>A i t) B (fun s=>C s j)
theorem elim.rank{n:Nat}(hn:n≤4){A C:Nat→Nat→Int}{r:Nat}(h:elim n A C r n):isRank n A r:=by
 obtain⟨hle, -,⟨U,hU,hC⟩,⟨p,hp⟩,hz⟩:=h
 have lowC:∀k,ajf n k C→r≤k:=fun k hk=>by
  rcases Nat.lt_or_ge k r with g|g
  ·exfalso
   obtain⟨c,B,D,h0,h1⟩:=hk
   have ht:ajf r k (fun s t=>C s (p t)):=⟨c,B,fun u t=>D u (p t),h0,fun s t hs ht=>h1 s (p t) (by omega) (hp t ht).2.1⟩
   exact aqz (by omega) (fun t ht=>(hp t ht).2.2.1) (fun s t hst hs=>(hp t (by omega)).2.2.2 s hst (by omega)) (aA9 (by omega) g ht)
  ·exact g
 refine⟨hle,?_,fun k hk=>lowC k (QN (fun i j hi hj=>(hC i j hi hj).symm) (KN U hk)),fun hr hd=>?_⟩
 ·
  obtain⟨V,hV⟩:∃V:Nat→Nat→Int,∀i j,i<n→j<n→yo n V U i j=if i=j then js n U else 0:=by
   refine⟨fun i j=>aNv n (fun a b=>U b a) j i,fun i j hi hj=>?_⟩
   have:=aM8 hn (fun a b=>U b a) hj hi
   rw[aDi hn]at this
   have e2:(if i=j then js n U else 0)=if j=i then js n U else 0:=by
    by_cases e:i=j
    ·rw[if_pos e,if_pos e.symm]
    ·rw[if_neg e,if_neg (fun h=>e h.symm)]
   rw[e2,←this]
   exact qK fun t _=>Int.mul_comm _ _
  refine⟨js n U,V,C,hU,fun i j hi hj=>?_⟩
  have e1:qD (fun t=>V i t*C t j) r=qD (fun t=>V i t*C t j) n:=by
   have:qD (fun t=>V i t*C t j) n=qD (fun t=>if t<r then V i t*C t j else 0) n:=qK fun t ht=>by
    by_cases g:t<r
    ·rw[if_pos g]
    ·rw[if_neg g,hz t j (by omega) ht hj hj,Int.mul_zero]
   rw[this,ZJ hle (fun t ht=>if_neg (by omega))]
   exact qK fun t ht=>by rw[if_pos ht]
  rw[e1]
  have e2:qD (fun t=>V i t*C t j) n=yo n (yo n V U) A i j:=by
   rw[JZ]
   exact qK fun t ht=>by rw[hC t j ht hj]
  rw[e2]
  show _=qD (fun t=>yo n V U i t*A t j) n
  rw[jy (j:=i) hi (fun t ht hne=>by rw[hV i t hi ht,if_neg (fun h=>hne h.symm),Int.zero_mul]),hV i i hi hi,if_pos rfl]
 ·subst hr
  have h1:js r C=0:=by
   rw[yE hC,Jh hn,hd,Int.mul_zero]
  have h2:js r (yo r C (fun u t=>if u=p t then 1 else 0))=0:=by rw[Jh hn,h1,Int.zero_mul]
  refine aqz hn (T:=fun s t=>C s (p t)) (fun t ht=>(hp t ht).2.2.1) (fun s t hst hs=>(hp t (by omega)).2.2.2 s hst (by omega)) ?_
  rw[←h2]
  refine yE fun i j hi hj=>?_
  show C i (p j)=qD (fun u=>C i u*(if u=p j then 1 else 0)) r
  rw[jy (j:=p j) (hp j hj).2.1 (fun t _ hne=>by rw[if_neg hne,Int.mul_zero]),if_pos rfl,Int.mul_one]
theorem elim.skip{n:Nat}{A C:Nat→Nat→Int}{r j:Nat}(h:elim n A C r j)(hz:∀i,r≤i→i<n→C i j=0):elim n A C r (j+1):=by
 obtain⟨h1,h2,h3,⟨p,hp⟩,h5⟩:=h
 refine⟨h1,by omega,h3,⟨p,fun t ht=>⟨by have:=(hp t ht).1;omega,(hp t ht).2⟩⟩,fun i k hi hin hk hkn=>?_⟩
 rcases(show k<j∨k=j by omega)with g|rfl
 ·exact h5 i k hi hin g hkn
 ·exact hz i hi hin
def swI(a b i:Nat):Nat:=if i=a then b else if i=b then a else i
theorem aqA{n:Nat}(hn:n≤4){a r:Nat}(ha:a<n)(hr:r<n)(hne:a≠r)(p q:Int)(hp:p≠0):js n (fun i j=>if i=a then(if j=a then p else if j=r then-q else 0)else if i=j then 1 else 0)≠0:=by
 rcases(show n=1∨n=2∨n=3∨n=4 by omega)with rfl|rfl|rfl|rfl
 ·omega
 ·rw[akB]
  rcases(show a=0∨a=1 by omega)with rfl|rfl<;>rcases(show r=0∨r=1 by omega)with rfl|rfl<;>first|omega|simp[hp]
 ·rw[akA]
  rcases(show a=0∨a=1∨a=2 by omega)with rfl|rfl|rfl<;>rcases(show r=0∨r=1∨r=2 by omega)with rfl|rfl|rfl<;>first|omega|simp[hp]
 ·rw[aFK]
  rcases(show a=0∨a=1∨a=2∨a=3 by omega)with rfl|rfl|rfl|rfl<;>rcases(show r=0∨r=1∨r=2∨r=3 by omega)with rfl|rfl|rfl|rfl<;>first|omega|simp[hp]
structure elimR(n:Nat)(A C:Nat→Nat→Int)(r j m:Nat):Prop where
 rn:r<n
 rj:r≤j
 jn:j<n
 rm:r<m
 u:∃U:Nat→Nat→Int,js n U≠0∧∀i k,i<n→k<n→C i k=yo n U A i k
 p:∃p:Nat→Nat,∀t,t<r→p t<j∧p t<n∧C t (p t)≠0∧∀s,t<s→s<n→C s (p t)=0
 z:∀i k,r≤i→i<n→k<j→k<n→C i k=0
 pv:C r j≠0
 zm:∀i,r<i→i<m→i<n→C i j=0
theorem elim.pivot{n:Nat}{A C:Nat→Nat→Int}{r j:Nat}(h:elim n A C r j)(hr:r<n)(hj:j<n)(hp:C r j≠0):elimR n A C r j (r+1):=
 ⟨hr,h.rj,hj,by omega,h.u,h.p,h.z,hp,fun i h1 h2=>by omega⟩
theorem elimR.done{n:Nat}{A C:Nat→Nat→Int}{r j m:Nat}(h:elimR n A C r j m)(hm:n≤m):elim n A C (r+1) (j+1):=by
 obtain⟨h1,h2,h3,h4,h5,⟨p,hp⟩,h7,h8,h9⟩:=h
 refine⟨by omega,by omega,h5,⟨fun t=>if t=r then j else p t,fun t ht=>?_⟩,fun i k hi hin hk hkn=>?_⟩
 ·dsimp only
  by_cases e:t=r
  ·rw[if_pos e,e]
   exact⟨by omega,h3,h8,fun s hs hsn=>h9 s hs (by omega) hsn⟩
  ·rw[if_neg e]
   obtain⟨a,b,c,d⟩:=hp t (by omega)
   exact⟨by omega,b,c,d⟩
 ·rcases(show k<j∨k=j by omega)with g|rfl
  ·exact h7 i k (by omega) hin g hkn
  ·exact h9 i (by omega) (by omega) hin
theorem elimR.step{n:Nat}(hn:n≤4){A C C':Nat→Nat→Int}{r j m:Nat}(h:elimR n A C r j m)(hm:m<n)(h1:∀i k,i<n→k<n→i≠m→C' i k=C i k)(h2:∀k,k<n→C' m k=C m k*C r j-C r k*C m j):elimR n A C' r j (m+1):=by
 obtain⟨g1,g2,g3,g4,⟨U,hU,hC⟩,⟨p,hp⟩,g7,g8,g9⟩:=h
 refine⟨g1,g2,g3,by omega,⟨yo n (fun i k=>if i=m then(if k=m then C r j else if k=r then-C m j else 0)else if i=k then 1 else 0) U,?_,fun i k hi hk=>?_⟩,⟨p,fun t ht=>?_⟩,fun i k hi hin hk hkn=>?_,?_,fun i hi him hin=>?_⟩
 ·rw[Jh hn]
  intro e
  rcases Int.mul_eq_zero.1 e with e|e
  ·exact aqA hn hm g1 (by omega) (C r j) (C m j) g8 e
  ·exact hU e
 ·rw[JZ]
  show C' i k=qD (fun t=>(if i=m then(if t=m then C r j else if t=r then-C m j else 0)else if i=t then 1 else 0)*yo n U A t k) n
  by_cases e:i=m
  ·subst e
   have e2:qD (fun t=>(if i=i then(if t=i then C r j else if t=r then-C i j else 0)else if i=t then 1 else 0)*yo n U A t k) n=qD (fun t=>(if t=i then C r j*C i k else 0)+(if t=r then-C i j*C r k else 0)) n:=qK fun t ht=>by
    rw[if_pos rfl,←hC t k ht hk]
    by_cases a:t=i
    ·rw[if_pos a,if_pos a,if_neg (show ¬t=r by omega),a,Int.add_zero]
    ·rw[if_neg a,if_neg a]
     by_cases b:t=r
     ·rw[if_pos b,if_pos b,b,Int.zero_add]
     ·rw[if_neg b,if_neg b,Int.zero_mul,Int.add_zero]
   rw[e2,ZK,jy (j:=i) hi (fun t _ hne=>if_neg hne),jy (j:=r) g1 (fun t _ hne=>if_neg hne),if_pos rfl,if_pos rfl,h2 k hk,Int.mul_comm (C i k),Int.neg_mul,Int.mul_comm (C r k)]
   omega
  ·rw[jy (j:=i) hi (fun t _ hne=>by rw[if_neg e,if_neg (fun h=>hne h.symm),Int.zero_mul]),if_neg e,if_pos rfl,Int.one_mul,h1 i k hi hk e]
   exact hC i k hi hk
 ·obtain⟨a,b,c,d⟩:=hp t ht
  refine⟨a,b,?_,fun s hts hsn=>?_⟩
  ·rw[h1 t (p t) (by omega) b (by omega)];exact c
  ·by_cases e:s=m
   ·rw[e,h2 _ b,d m (by omega) hm,d r (by omega) g1];simp
   ·rw[h1 s _ hsn b e];exact d s hts hsn
 ·by_cases e:i=m
  ·rw[e,h2 k hkn,g7 m k (by omega) hm hk hkn,g7 r k (by omega) g1 hk hkn];simp
  ·rw[h1 i k hin hkn e];exact g7 i k hi hin hk hkn
 ·rw[h1 r j g1 g3 (by omega)];exact g8
 ·by_cases e:i=m
  ·rw[e,h2 j g3,Int.mul_comm];omega
  ·rw[h1 i j hin g3 e];exact g9 i hi (by omega) hin
end Go.Ab
namespace Go.Ab
/-! ### Sums of powers of a matrix,at one scale-/
def p2(k:Nat):Int:=2^k
theorem aO1(a:Nat):0<p2 a:=Int.pow_pos (by omega)
def be4(n:Nat)(P:Nat→Int)(A:Nat→Nat→Int)(m i j:Nat):Int:=qD (fun t=>P t*bb3 n A t i j*p2 (40000-3000*(t+1))) m
end Go.Ab
namespace Go.Ab
open Go Go.Proofs
/-! ### What polynomials of a matrix are worth-/
end Go.Ab
namespace Go.Ab
open Go Go.Proofs
/-! ### What rounded quotients are worth-/
end Go.Ab
namespace Go.Ab
theorem adT{a b c d x y m M:Int}(h1:a≤x)(h2:x≤b)(h3:c≤y)(h4:y≤d)(m1:m≤a*c)(m2:m≤a*d)(m3:m≤b*c)(m4:m≤b*d)(M1:a*c≤M)(M2:a*d≤M)(M3:b*c≤M)(M4:b*d≤M):m≤x*y∧x*y≤M:=by
 have key:∀e:Int,(a*e≤x*e∧x*e≤b*e)∨(b*e≤x*e∧x*e≤a*e):=fun e=>by
  rcases Int.le_total 0 e with h|h
  ·exact .inl ⟨Int.mul_le_mul_of_nonneg_right h1 h,Int.mul_le_mul_of_nonneg_right h2 h⟩
  ·exact .inr ⟨Int.mul_le_mul_of_nonpos_right h2 h,Int.mul_le_mul_of_nonpos_right h1 h⟩
 have kc:=key c
 have kd:=key d
 have ky:(x*c≤x*y∧x*y≤x*d)∨(x*d≤x*y∧x*y≤x*c):=by
  rcases Int.le_total 0 x with h|h
  ·exact .inl ⟨Int.mul_le_mul_of_nonneg_left h3 h,Int.mul_le_mul_of_nonneg_left h4 h⟩
  ·exact .inr ⟨Int.mul_le_mul_of_nonpos_left h h4,Int.mul_le_mul_of_nonpos_left h h3⟩
 omega
end Go.Ab
