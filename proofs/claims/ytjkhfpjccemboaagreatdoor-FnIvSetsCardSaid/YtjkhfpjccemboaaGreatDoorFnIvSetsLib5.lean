/- What the proof of this claim stands on: the walks of the functions and the plain laws, part 5. -/
import Derived.Test.YtjkhfpjccemboaaGreatDoorFnIvSetsLib4
import Derived.Test.YtjkhfpjccemboaaGreatDoorRows
import Derived.Test.YtjkhfpjccemboaaGreatDoorCards
import Derived.Test.YtjkhfpjccemboaaGreatDoorTie
import Derived.Handed
import Derived.ChangeSame
import Derived.JoinedOf
import Derived.RowKit
import Derived.WalkKit
import Derived.ProofKit
import Derived.OpenShut
import Derived.LaidLaws
import Derived.LaidHandle
import Derived.SevenTiedAt
import Derived.Stop.LaidErr
import Derived.Lib.LaidTab
set_option linter.unusedVariables false
set_option linter.unusedSimpArgs false
namespace Go.Ab
open Go Go.Proofs
section
variable (g:Nat)(p:DyV→Bool)
theorem ai5(x:DyV)(hf:Con Tryz.prog g true [.ag x.cs] [] (isA (.v (.bool (p x)))))(hg:qo Tryz.prog g=True):
  Con Tryz.prog 283 true [.ag x.cs,.fp [.fn g []] 0] [] (isA (.v (.bool (!p x)))):=by
 unfold DyV.cs at hf ⊢
 refine Con.of_w (rs:=[.tmp 3]) Tryz.func283 rfl Tryz.ntmps283 rfl ?_
 simp(disch:=omega)only[go_sem,hg]
 refine qz hf (by simp(disch:=omega)only[go_sem]) ?_
 rintro r hs ⟨rfl,rfl,_⟩
 refine⟨by simp[qN],?_⟩
 simp(disch:=omega)only[go_sem]
 exact qy
theorem adp(f:Nat)(caps:List AV)(xs:List DyV)(hl:xs.length≤2^40)(hf:∀x∈xs,Con Tryz.prog f true (.ag x.cs::caps) [] (isA (.v (.bool (p x)))))(hg:qo Tryz.prog f=True)
  (hc:∀h:Nat→Ob,caps.map (qE h 6)=caps) (hc5:∀h:Nat→Ob,caps.map (qE h 5)=caps) (hn:∀ks,AllL (jS ks) caps) (hr:∀ρ,zS ρ caps=caps):
  Con Tryz.prog 304 true [.sl xs.length (qt DyV.cs xs),.fn f caps] [] (fun r hs bs=>∃i:Int,r=.v (.int .i64 i)∧hs=[]∧(0≤i↔∃x∈xs,p x=true)):=by
 refine Con.of_aw Tryz.func304 rfl Tryz.ntmps304 (by simp) (by simp) (by simp) (W.sound ?_)
 show @W Tryz.prog 19 ⟨_⟩ ⟨fun x σ=>@qU _ _ _ ⟨_⟩ _ ⟨_⟩ x σ⟩ _ _
 simp(disch:=omega)only[go_sem]
 refine qj (fun i:Nat=>[(0,.sl xs.length (qt DyV.cs xs)),(1,.fn f caps),(6,.sl xs.length (qt DyV.cs xs)),(7,.v (.int .i64 xs.length)),(8,.v (.int .i64 i))])
  (fun _=>[]) (fun i=>i≤xs.length∧∀j,j<i→p (xs.getD j ⟨false,[],0⟩)=false) (fun i=>xs.length-i) 0 ⟨by omega,fun j hj=>by omega⟩ (Le.lst [] _ _ rfl (by simp(disch:=omega)only[go_sem,hr,hn]) (by simp(disch:=omega)only[go_sem])) ?_
 rintro i ⟨hi,hp⟩
 simp(disch:=omega)only[go_sem]
 refine qg (fun h1=>?_) (fun h1=>?_)
 ·have hcut:=JT (l:=xs) aDH (i:=i) (by omega) ⟨false,[],0⟩
  simp(disch:=omega)only[go_sem,h1,hcut,hg]
  refine⟨by omega,by omega,qz (hf (xs.getD i ⟨false,[],0⟩) (by rw[List.getD_eq_getElem?_getD,List.getElem?_eq_getElem (by omega)];exact List.getElem_mem _)) (by simp(disch:=omega)only[go_sem,hc,hc5]) ?_⟩
  rintro r hs ⟨rfl,rfl,_⟩
  refine⟨by simp[qN],?_⟩
  simp(disch:=omega)only[go_sem]
  refine yv (fun h2=>?_) (fun h2=>?_)
  ·simp(disch:=omega)only[go_sem,h2]
   refine qx (by simp(disch:=omega)only[go_sem]) (by simp(disch:=omega)only[go_sem]) ⟨i,rfl,rfl,?_⟩
   refine⟨fun _=>⟨_,?_,h2⟩,fun _=>by omega⟩
   rw[List.getD_eq_getElem?_getD,List.getElem?_eq_getElem (by omega)];exact List.getElem_mem _
  ·simp(disch:=omega)only[go_sem,h2]
   refine qc (i+1) [] ⟨by omega,fun j hj=>?_⟩ (by show xs.length-(i+1)<xs.length-i;omega) rfl (by simp(disch:=omega)only[go_sem,hr,hn];try omega) (by simp(disch:=omega)only[go_sem])
   rcases(by omega:j<i∨j=i)with h|h
   ·exact hp j h
   ·subst h;exact h2
 ·simp(disch:=omega)only[go_sem,h1]
  refine qx (by simp(disch:=omega)only[go_sem]) (by simp(disch:=omega)only[go_sem]) ⟨-1,rfl,rfl,?_⟩
  refine⟨fun h=>by omega,fun⟨x,hx,hpx⟩=>?_⟩
  obtain⟨j,hj,rfl⟩:=List.getElem_of_mem hx
  have:=hp j (by omega)
  rw[List.getD_eq_getElem?_getD,List.getElem?_eq_getElem hj]at this
  simp only[Option.getD_some]at this
  rw[this]at hpx;cases hpx
theorem Z9(f:Nat)(caps:List AV)(xs:List DyV)(hl:xs.length≤2^40)(hf:∀x∈xs,Con Tryz.prog f true (.ag x.cs::caps) [] (isA (.v (.bool (p x)))))(hg:qo Tryz.prog f=True)
  (hc:∀h:Nat→Ob,caps.map (qE h 6)=caps) (hc5:∀h:Nat→Ob,caps.map (qE h 5)=caps) (hn:∀ks,AllL (jS ks) caps) (hr:∀ρ,zS ρ caps=caps):
  Con Tryz.prog 282 true [.sl xs.length (qt DyV.cs xs),.fn f caps] [] (isA (.v (.bool (xs.any p)))):=by
 refine Con.of_aw Tryz.func282 rfl Tryz.ntmps282 (by simp) (by simp) (by simp) (W.sound ?_)
 show @W Tryz.prog 9 ⟨_⟩ ⟨fun x σ=>@qU _ _ _ ⟨_⟩ _ ⟨_⟩ x σ⟩ _ _
 simp(disch:=omega)only[go_sem]
 refine qz (adp p f caps xs hl hf hg hc hc5 hn hr) (by simp(disch:=omega)only[go_sem,hc,hc5]) ?_
 rintro r hs ⟨i,rfl,rfl,hi⟩
 refine⟨by simp[qN],?_⟩
 simp(disch:=omega)only[go_sem]
 refine qx (by simp(disch:=omega)only[go_sem]) (by simp(disch:=omega)only[go_sem]) ⟨?_,rfl,rfl⟩
 have:decide (0≤i)=xs.any p:=by rw[Bool.eq_iff_iff,decide_eq_true_eq,hi,List.any_eq_true]
 rw[this];rfl
theorem apH(xs:List DyV)(hl:xs.length≤2^40)(hf:∀x∈xs,Con Tryz.prog g true [.ag x.cs] [] (isA (.v (.bool (p x)))))(hg:qo Tryz.prog g=True):
  Con Tryz.prog 238 true [.sl xs.length (qt DyV.cs xs),.fn g []] [] (isA (.v (.bool (xs.all p)))):=by
 refine Con.of_aw Tryz.func238 rfl Tryz.ntmps238 (by simp) (by simp) (by simp) (W.sound ?_)
 show @W Tryz.prog 9 ⟨_⟩ ⟨fun x σ=>@qU _ _ _ ⟨_⟩ _ ⟨_⟩ x σ⟩ _ _
 simp(disch:=omega)only[go_sem]
 refine qz (Z9 (fun x=> !p x) 283 [.fp [.fn g []] 0] xs hl (fun x hx=>ai5 g p x (hf x hx) hg) (by simp(disch:=omega)only[go_sem]) (fun h=>rfl) (fun h=>rfl) (fun ks=>by simp(disch:=omega)only[go_sem]) (fun ρ=>rfl)) (by simp(disch:=omega)only[go_sem]) ?_
 rintro r hs ⟨rfl,rfl,_⟩
 refine⟨by simp[qN],?_⟩
 simp(disch:=omega)only[go_sem]
 refine qx (by simp(disch:=omega)only[go_sem]) (by simp(disch:=omega)only[go_sem]) ⟨?_,rfl,rfl⟩
 have:(!xs.any fun x=> !p x)=xs.all p:=by rw[List.all_eq_not_any_not]
 rw[this];rfl
end
def DyV.ok(x:DyV):Bool:=dyB x.s x.xs x.e
theorem JF(xs:List DyV)(hl:xs.length≤2^40)(hx:∀x∈xs,x.xs.length≤2^40):Con Tryz.prog 161 true [.sl xs.length (qt DyV.cs xs)] [] (isA (.v (.bool (xs.all DyV.ok)))):=by
 refine Con.of_w (rs:=[.tmp 2]) Tryz.func161 rfl Tryz.ntmps161 rfl ?_
 simp(disch:=omega)only[go_sem]
 refine qe (apH 63 DyV.ok xs hl (fun x h=>aei x.s x.xs x.e (hx x h)) (by simp(disch:=omega)only[go_sem])) ?_
 simp(disch:=omega)only[go_sem]
 exact qy
def aSS(n:Int)(l:List DyV):Bool:=(decide (1≤n)&&decide (n≤4))&&(decide ((l.length:Int)=n*n)&&l.all DyV.ok)
theorem apI(n:Int)(l:List DyV)(hl:l.length≤2^40)(hx:∀x∈l,x.xs.length≤2^40):Con Tryz.prog 76 true [.ag [.v (.int .i64 n),.sl l.length (qt DyV.cs l)]] [] (isA (.v (.bool (aSS n l)))):=by
 unfold aSS
 cases h1:(decide (1≤n)&&decide (n≤4))
 ·rw[Bool.false_and]
  refine Con.of_w (rs:=[.tmp 2]) Tryz.func76 rfl Tryz.ntmps76 rfl ?_
  simp(disch:=omega)only[go_sem]
  refine qe (zC n 1 4) ?_
  simp(disch:=omega)only[go_sem]
  simp(disch:=omega)only[go_sem,h1]
  exact qy
 ·rw[Bool.true_and]
  have h1':1≤n∧n≤4:=by simpa using h1
  have hq:0≤n*n∧n*n≤16:=⟨Int.mul_nonneg (by omega) (by omega),Int.mul_le_mul h1'.2 h1'.2 (by omega) (by omega)⟩
  cases h2:decide ((l.length:Int)=n*n)
  ·rw[Bool.false_and]
   refine Con.of_w (rs:=[.tmp 2]) Tryz.func76 rfl Tryz.ntmps76 rfl ?_
   simp(disch:=omega)only[go_sem]
   refine qe (zC n 1 4) ?_
   simp(disch:=omega)only[go_sem]
   simp(disch:=omega)only[go_sem,h1,h2]
   exact qy
  ·rw[Bool.true_and]
   refine Con.of_w (rs:=[.tmp 2]) Tryz.func76 rfl Tryz.ntmps76 rfl ?_
   simp(disch:=omega)only[go_sem]
   refine qe (zC n 1 4) ?_
   simp(disch:=omega)only[go_sem]
   simp(disch:=omega)only[go_sem,h1,h2]
   refine qe (JF l hl hx) ?_
   simp(disch:=omega)only[go_sem]
   exact qy
end Go.Ab
namespace Go.Ab
open Go Go.Proofs
def ExV.dy(x:ExV):DyV:=⟨x.s,lim x.m,x.e⟩
theorem aMH(l:List ExV):qt ExV.cs l=qt DyV.cs (l.map ExV.dy):=by unfold qt;rw[List.map_map];rfl
def ExV.ok(x:ExV):Bool:=dyB x.s (lim x.m) x.e
def aNN(n:Int)(l:List ExV):Bool:=(decide (1≤n)&&decide (n≤4))&&(decide ((l.length:Int)=n*n)&&l.all ExV.ok)
theorem aI4(n:Int)(l:List ExV):aSS n (l.map ExV.dy)=aNN n l:=by
 unfold aSS aNN
 rw[List.length_map,List.all_map];rfl
theorem ai6(n:Int)(l:List ExV)(hl:l.length≤2^40)(hx:∀x∈l,(lim x.m).length≤2^40):Con Tryz.prog 76 true [.ag [.v (.int .i64 n),.sl l.length (qt ExV.cs l)]] [] (isA (.v (.bool (aNN n l)))):=by
 have:=apI n (l.map ExV.dy) (by rw[List.length_map];exact hl) (fun x h=>by
  obtain⟨y,hy,rfl⟩:=List.mem_map.1 h
  exact hx y hy)
 rw[aI4,←aMH,List.length_map]at this
 exact this
theorem Qj{x:ExV}(h:x.ok=true):x.bd (-3000) 4600:=by
 obtain⟨m,e1,h1,h2,h3,_,h4⟩:=Qq h
 have e2:x.m=m:=j1 e1
 subst e2
 exact⟨h4,by omega,by omega⟩
def aij(F:List SpV)(X:List ExV)(k:Nat):List ExV:=(List.range k).map fun i=>q5 [((F.getD i sp0).hi.plus (X.getD i ex0).neg).abs,((X.getD i ex0).plus (F.getD i sp0).lo.neg).abs]
theorem yW{F:List SpV}{X:List ExV}{k:Nat}:(aij F X k).length=k:=by simp[aij]
theorem an4{F:List SpV}{X:List ExV}{k:Nat}:aij F X (k+1)=aij F X k++[q5 [((F.getD k sp0).hi.plus (X.getD k ex0).neg).abs,((X.getD k ex0).plus (F.getD k sp0).lo.neg).abs]]:=by simp[aij,List.range_succ]
theorem an3{lo hi:Int}{s:SpV}{x:ExV}(hs:s.bd lo hi)(hx:x.bd lo hi):gbd lo (hi+1) [(s.hi.plus x.neg).abs,(x.plus s.lo.neg).abs]:=by
 intro y hy
 simp only[List.mem_cons,List.not_mem_nil,or_false]at hy
 rcases hy with rfl|rfl
 ·exact ExV.abs_bd (ExV.plus_bd hs.2 (ExV.neg_bd hx))
 ·exact ExV.abs_bd (ExV.plus_bd hx (ExV.neg_bd hs.1))
theorem aIz{lo hi:Int}{F:List SpV}{X:List ExV}{k:Nat}(hF:sbd lo hi F)(hX:gbd lo hi X)(h1:k≤F.length)(h2:k≤X.length):gbd lo (hi+1) (aij F X k):=by
 intro y hy
 simp only[aij,List.mem_map,List.mem_range]at hy
 obtain⟨i,hi,rfl⟩:=hy
 exact Q0 (an3 (jv hF (by omega)) (zj hX (by omega))) (by simp)
def aeb(n:Nat)(F:List SpV)(low:Int):List ExV:=aJy n (F.map acV) low 0
def jE(n:Nat)(F:List SpV)(low:Int):ExV:=jY n (aij F (aeb n F low) (n*n)) n
theorem aI3{lo hi:Int}{s:SpV}(hs:s.bd lo hi):(acV s).bd (lo-1) hi:=by
 have:=ExV.shift_bd (k:= -1) (ExV.plus_bd hs.1 hs.2)
 exact this.mono (by omega) (by omega)
theorem aJx{lo hi low mode:Int}{n:Nat}{l:List ExV}(hl:l.length=n*n)(h:gbd lo hi l)(h1:lo≤low)(h2:low≤hi):gbd lo (hi+1) (aJy n l low mode):=
 aX8 fun i j hi hj=>ExV.rnd_bd (zj h (by rw[hl];exact y0 hi hj)) h1 h2
set_option maxRecDepth 100000 in
set_option maxHeartbeats 2000000 in
theorem adz(n:Nat)(L:List ExV)(low:Int)(F:List SpV)(hn:n≤4)(hL:L.length=n*n)(hlow: -1000≤low∧low≤1000)(ca:Con Tryz.prog 147 true [.ag [.v (.int .i64 (n)),.sl (L).length (qt ExV.cs (L))],.v (.int .i64 low)] [] (isA (.v (.bool true))))
  (ch:Con Tryz.prog 148 false [.ag [.v (.int .i64 (n)),.sl (L).length (qt ExV.cs (L))],.v (.int .i64 low)] [] (isA (.ag [.v (.int .i64 (n)),.sl (F).length (qt SpV.cs (F))]))) (hF:F.length=n*n) (hFb:sbd (-300000) 300000 F) (hfit:F.all SpV.fit=true):
  Con Tryz.prog 70 false [.ag [.v (.int .i64 (n)),.sl (L).length (qt ExV.cs (L))],.v (.int .i64 low)] []
   (isA (if((aeb n F low).all ExV.fit&&(jE n F low).fit)=true then .tu [.ag [.v (.int .i64 n),.sl (aeb n F low).length (qt ExV.cs ((aeb n F low).map ExV.can))],.ag [.v (.bool ((jE n F low).can).s),.sl (lim ((jE n F low).can).m).length (qb (lim ((jE n F low).can).m)),.v (.int .i64 ((jE n F low).can).e)],.v (.bool true)]else .tu [.ag [.v (.int .i64 0),.sl 0 []],.ag [.v (.bool (false)),.sl (lim (0)).length (qb (lim (0))),.v (.int .i64 (0))],.v (.bool false)])):=by
 refine Con.frzA ?_
 have hq:=anA hn
 have cg:=ZL n L (by omega)
 have cv:=apw n F (by omega) (jK hFb (by omega) (by omega))
 rw[hfit,if_pos rfl]at cv
 have cm:=aKA n F (by omega) (jK hFb (by omega) (by omega))
 have hml:(F.map acV).length=n*n:=by rw[List.length_map,hF]
 have hmb:gbd (-300001) 300000 (F.map acV):=by
  intro x hx
  obtain⟨s,hs,rfl⟩:=List.mem_map.1 hx
  exact(aI3 (hFb s hs)).mono (by omega) (by omega)
 have cr:=aBI n (F.map acV) low 0 hn hml (Q3 hmb (by omega) (by omega)) (by omega)
 have hXl:(aeb n F low).length=n*n:=by unfold aeb aJy;exact ZB
 have hXb:gbd (-300001) 300001 (aeb n F low):=aJx hml hmb (by omega) (by omega)
 change Con _ _ _ _ _ (isA (.ag [.v (.int .i64 (n)),.sl (aeb n F low).length (qt ExV.cs (aeb n F low))]))at cr
 have hOb:gbd (-300001) 300002 (aij F (aeb n F low) (n*n)):=aIz (jK hFb (by omega) (by omega)) hXb (by omega) (by omega)
 have cno:=Yo n (aij F (aeb n F low) (n*n)) hn yW (Q3 hOb (by omega) (by omega))
 change Con _ _ _ _ _ (isA (.ag [.v (.bool (jE n F low).s),.sl (lim (jE n F low).m).length (qb (lim (jE n F low).m)),.v (.int .i64 (jE n F low).e)]))at cno
 have hFar:(jE n F low).bd (-300001) 300006:=(JY yW hOb (by omega) n (Nat.le_refl _)).mono (by omega) (by omega)
 have cw:=Z7 n (aeb n F low) (jE n F low) (by omega) (Q3 hXb (by omega) (by omega)) (hFar.mono (by omega) (by omega))
 generalize jE n F low=far at*
 generalize aeb n F low=X at*
 generalize F.map acV=M at*
 generalize F.map SpV.can=FC at*
 refine Con.of_w (rs:=[.cell 4 42,.cell 5 29,.tmp 6]) Tryz.func70 rfl Tryz.ntmps70 rfl ?_
 simp(disch:=omega)only[go_sem]
 refine qe (ca) ?_
 simp(disch:=omega)only[go_sem]
 refine qa (cg) ?_
 simp(disch:=omega)only[go_sem]
 refine qa (ch) ?_
 simp(disch:=omega)only[go_sem]
 refine qa (cv) ?_
 simp(disch:=omega)only[go_sem]
 refine qa (cm) ?_
 simp(disch:=omega)only[go_sem]
 refine qa (cr) ?_
 simp(disch:=omega)only[go_sem]
 refine qj (fun i:Nat=>[(4,.pt 2 0),(5,.pt 3 0),(7,.pt 4 0),(10,.pt 5 0),(11,.pt 0 0),(41,.sl F.length (qt SpV.cs F)),(42,.v (.int .i64 F.length)),(43,.v (.int .i64 i))])
  (fun i=>[(0,.own 0 [.v (.int .i64 n),.rf 1 0 i]),(1,.own 3 (qt ExV.cs (aij F X i))),(2,.own 0 [.v (.int .i64 0),.v (.slice none 0 0)]),(3,.own 0 [.v (.bool false),.v (.slice none 0 0),.v (.int .i64 0)]),(4,.own 0 [.v (.int .i64 n),.sl F.length (qt SpV.cs F)]),(5,.own 0 [.v (.int .i64 n),.sl X.length (qt ExV.cs X)])])
  (fun i=>i≤F.length) (fun i=>F.length-i) 0 (by omega)
  ((Le.ghostC 130000000 1 1 3 (zo:=0) (cs:=[.v (.int .i64 n),.v (.slice none 0 0)]) (by simp(disch:=omega)only[go_sem]) rfl (by simp(disch:=omega)only[go_sem])).trans (Le.lst [(0,130000000),(2,60000000),(3,70000000),(4,90000000),(5,120000000)] _ _ rfl (by simp(disch:=omega)only[go_sem]) (by simp(disch:=omega)only[go_sem,show aij F X 0=[] from rfl,Yh,List.set_cons_succ,List.set_cons_zero]))) ?_
 intro i hi
 simp(disch:=omega)only[go_sem]
 refine qg (fun h1=>?_) (fun h1=>?_)
 ·have hi2:i<F.length:=by omega
  have hci:=yD hi2
  have hcx:=zO (l:=X) (i:=i) (by omega)
  have hcut:=zz (yW (F:=F) (X:=X) (k:=i))
  have hs:=an4 (F:=F) (X:=X) (k:=i)
  have bs:=jv hFb hi2
  have bx:=zj hXb (show i<X.length by omega)
  have b2:=an3 (SpV.bd.mono bs (by omega) (by omega)) bx
  generalize F.getD i sp0=s at*
  generalize X.getD i ex0=x at*
  simp(disch:=omega)only[go_sem,h1,hci]
  refine⟨by omega,by omega,?_⟩
  refine qp rfl [⟨0,[],[]⟩,⟨1,[],[]⟩,⟨2,[1],[]⟩,⟨3,[1],[]⟩,⟨4,[1,3],[]⟩,⟨5,[1,3],[]⟩,⟨6,[1,3,5],[]⟩,⟨7,[1,3],[]⟩,⟨8,[1,3],[]⟩,⟨11,[1,3,5,8],[]⟩,⟨12,[1,3,5,8],[]⟩,⟨13,[1,3,5,8,12],[]⟩,⟨14,[1,3,5,8],[]⟩,⟨15,[1,3,5,8],[]⟩,⟨16,[1,3,5,8,12,15],[]⟩,⟨17,[1,3,5,8,12,15],[]⟩,⟨9,[1,12,15,17],[]⟩,⟨10,[1,12,15,17],[]⟩,⟨18,[1],[]⟩,⟨19,[1],[]⟩,⟨20,[1],[]⟩,⟨21,[1],[]⟩,⟨22,[1],[]⟩,⟨23,[],[]⟩,⟨24,[],[]⟩,⟨25,[],[]⟩] (by kernel_rfl) ?_
  simp(disch:=omega)only[go_sem,hcx]
  refine⟨by omega,by omega,by omega,by omega,?_⟩
  refine qa (Qv s.hi x (bs.2.mono (by omega) (by omega)) (bx.mono (by omega) (by omega))) ?_
  simp(disch:=omega)only[go_sem]
  refine qa (Yw (s.hi.plus x.neg)) ?_
  simp(disch:=omega)only[go_sem]
  refine qa (Qv x s.lo (bx.mono (by omega) (by omega)) (bs.1.mono (by omega) (by omega))) ?_
  simp(disch:=omega)only[go_sem]
  refine qa (Yw (x.plus s.lo.neg)) ?_
  simp(disch:=omega)only[go_sem]
  generalize (s.hi.plus x.neg).abs=A at*
  generalize (x.plus s.lo.neg).abs=B at*
  have hrow:([.v (.bool A.s),.sl (lim A.m).length (qb (lim A.m)),.v (.int .i64 A.e),.v (.bool B.s),.sl (lim B.m).length (qb (lim B.m)),.v (.int .i64 B.e)]:List AV)=qt ExV.cs [A,B]:=rfl
  rw[hrow]
  refine qW false [700000000] (ZK [A,B] (by simp) (by simp) (Q3 b2 (by omega) (by omega))) (by simp(disch:=omega)only[go_sem]) (by simp(disch:=omega)only[go_sem]) rfl (qM (z:=3) (cs:=qt ExV.cs [A,B]) (by simp(disch:=omega)only[go_sem]) (by simp(disch:=omega)only[go_sem])) (by intro n hn;exact⟨_,List.mem_cons_self ..,by rw[List.mem_singleton.1 hn];rfl⟩) ?_
  rintro r hs2 bs2 ⟨rfl,rfl,rfl⟩-
  refine⟨by simp[qN],?_⟩
  simp(disch:=omega)only[go_sem,hcut,y6]
  refine⟨⟨by rw[yW];exact Nat.le_refl _,by omega⟩,qc (i+1) [(1,730000000)] (by show i+1≤_;omega) (by show F.length-(i+1)<F.length-i;omega) rfl (by simp(disch:=omega)only[go_sem];try omega) (by simp(disch:=omega)only[go_sem,hs])⟩
 ·simp(disch:=omega)only[go_sem,h1]
  obtain rfl:i=F.length:=by omega
  have hol:=yW (F:=F) (X:=X) (k:=n*n)
  rw[hF]
  generalize aij F X (n*n)=O at*
  rw[hol]at cno
  refine aKx (E:=[(4,.pt 2 0),(5,.pt 3 0),(10,.pt 5 0),(11,.pt 0 0)]) (H:=[(0,.own 0 [.v (.int .i64 n),.sl (n*n) (qt ExV.cs O)]),(2,.own 0 [.v (.int .i64 0),.v (.slice none 0 0)]),(3,.own 0 [.v (.bool false),.v (.slice none 0 0),.v (.int .i64 0)]),(5,.own 0 [.v (.int .i64 n),.sl X.length (qt ExV.cs X)])])
   ((Le.frz 1 (z:=3) (ks:=qt ExV.cs O) (by simp(disch:=omega)only[go_sem]) rfl (by simp(disch:=omega)only[go_sem])).trans (Le.lst [] _ _ rfl (by simp(disch:=omega)only[go_sem]) (by simp(disch:=omega)only[go_sem,zz hol]))) ?_
  refine qp rfl [⟨0,[],[]⟩,⟨1,[0],[]⟩,⟨2,[0],[]⟩,⟨3,[],[]⟩,⟨4,[],[]⟩,⟨5,[],[]⟩,⟨6,[],[]⟩,⟨7,[],[]⟩,⟨8,[],[]⟩,⟨9,[],[]⟩] (by kernel_rfl) ?_
  simp(disch:=omega)only[go_sem]
  refine qa (cno) ?_
  simp(disch:=omega)only[go_sem]
  cases hc:(X.all ExV.fit&&far.fit)
  ·rw[hc,if_neg (by simp)]at cw
   rw[if_neg (by simp)]
   refine qa (cw) ?_
   simp(disch:=omega)only[go_sem]
   exact qk (hp:=by simp(disch:=omega)only[go_sem,qm,List.length_nil,zy])
  ·rw[hc,if_pos rfl]at cw
   rw[if_pos rfl]
   refine qa (cw) ?_
   simp(disch:=omega)only[go_sem]
   exact qk
theorem KQ(n:Nat)(h1:n=1):Con Tryz.prog 147 true [.ag [.v (.int .i64 (n)),.sl ([ex0]).length (qt ExV.cs ([ex0]))],.v (.int .i64 (-10))] [] (isA (.v (.bool true))):=by
 have cm:=ai6 n [ex0] (by decide) (by intro x hx;rw[List.mem_singleton.1 hx];show(lim 0).length≤_;rw[qm];decide)
 have hm:aNN n [ex0]=true:=by
  rw[h1];unfold aNN;rw[List.all_cons,List.all_nil,show ex0.ok=true by show dyB false (lim 0) 0=true;rw[qm];decide];decide
 rw[hm]at cm
 have cg:=ZL n [ex0] (by decide)
 have cn:=Yo n [ex0] (by omega) (by rw[h1];rfl) (by decide+kernel)
 rw[show jY n [ex0] n=ex0 by rw[h1];decide+kernel]at cn
 have cc:=jh ex0 (exN 64) (by decide+kernel) (by decide+kernel)
 rw[show ex0.cmp (exN 64)= -1 by decide+kernel]at cc
 have q:decide ((-1:Int)≤0)=true:=rfl
 have q1:(decide ((-120:Int)≤ -10)&&decide ((-10:Int)≤0))=true:=rfl
 have cwi:=zC (-10) (-120) 0
 rw[q1]at cwi
 refine Con.of_w (rs:=[.tmp 4]) Tryz.func147 rfl Tryz.ntmps147 rfl ?_
 simp(disch:=omega)only[go_sem]
 refine qe (cm) ?_
 simp(disch:=omega)only[go_sem]
 refine qe (cwi) ?_
 simp(disch:=omega)only[go_sem]
 refine qa (cg) ?_
 simp(disch:=omega)only[go_sem]
 refine qa (cn) ?_
 simp(disch:=omega)only[go_sem]
 refine qa (zp 64 (by omega)) ?_
 simp(disch:=omega)only[go_sem]
 refine qz cc (by simp(disch:=omega)only[go_sem,exN]) ?_
 rintro r hs ⟨rfl,rfl,_⟩
 refine⟨by simp[qN],?_⟩
 simp(disch:=omega)only[go_sem,q]
 exact qy
end Go.Ab
namespace Go.Ab
open Go Go.Proofs
theorem jj(cl:Bool)(xs:List Int)(m:Nat)(hl:xs.length≤2^39)(hx:gd xs)(hv:vl xs=(m:Int)):Con Tryz.prog 259 cl [.sl xs.length (qb xs)] [] (aDr m):=by
 refine Con.of_aw Tryz.func259 rfl Tryz.ntmps259 (by simp) (by simp) (by simp) (W.sound ?_)
 show @W Tryz.prog 24 ⟨_⟩ ⟨fun x σ=>@qU _ _ _ ⟨_⟩ _ ⟨_⟩ x σ⟩ _ _
 simp(disch:=omega)only[go_sem]
 have hcz:ZI xs=lim m:=by rw[zU hx,hv,Int.toNat_natCast]
 refine qj (fun k:Nat=>[(0,.sl xs.length (qb xs)),(2,.pt 40000000 0),(3,.v (.int .i64 k))]) (fun _=>[(40000000,.own 0 [.v (.slice none 0 0)])]) (fun k=>k≤xs.length∧ZI (xs.take k)=ZI xs) id xs.length ⟨Nat.le_refl _,by simp⟩
  (Le.lst [] _ _ rfl (by simp(disch:=omega)only[go_sem]) (by simp(disch:=omega)only[go_sem])) ?_
 intro k ⟨hk,hc⟩
 have hkx:∀j,j+1=k→xs.take k=xs.take j++[xs.getD j 0]:=fun j hj=>by rw[←hj];exact jz (by omega)
 simp(disch:=omega)only[go_sem]
 refine qg (fun h1=>?_) (fun h1=>?_)
 ·obtain⟨j,rfl⟩:∃j,k=j+1:=⟨k-1,by omega⟩
  have e1:((j+1:Nat):Int)-1=(j:Nat):=by omega
  rw[hkx j rfl]at hc
  simp(disch:=omega)only[go_sem,h1,e1]
  refine⟨by omega,by omega,qg (fun h2=>?_) (fun h2=>?_)⟩
  ·simp(disch:=omega)only[go_sem,h2,e1]
   rw[h2,y8]at hc
   exact qc j [] ⟨by omega,hc⟩ (by show j<j+1;omega) rfl (by simp(disch:=omega)only[go_sem];try omega) (by simp(disch:=omega)only[go_sem])
  ·rw[Yj _ h2,←hkx j rfl,hcz]at hc
   have hlm:j+1=(lim m).length:=by rw[←hc,List.length_take];omega
   have e0:(((j+1:Nat):Int)-0).toNat=(lim m).length:=by omega
   rw[hlm]at hc
   simp(disch:=omega)only[go_sem,h2,e0,hc]
   refine⟨by omega,by omega,?_⟩
   refine qi [(0,240000000)] [.own 1 (qb (lim m))] [] [.ag [.rf 0 0 (lim m).length]] rfl (by simp(disch:=omega)only[go_sem]) (by simp(disch:=omega)only[go_sem]) (by simp) (by intro _;simp[zd,AV.pu,AV.pu.puL,Ob.pu,qS]) (.inr ⟨[],rfl,by rw[List.append_nil]⟩)
 ·have hlm:k=(lim m).length:=by
   have:k=0:=by omega
   rw[←hcz,←hc,this];rfl
  subst hlm
  have hc:xs.take (lim m).length=lim m:=by
   have:lim m=[]:=List.length_eq_zero_iff.1 (by omega)
   rw[this];simp
  have e0:(((lim m).length:Int)-0).toNat=(lim m).length:=by omega
  simp(disch:=omega)only[go_sem,h1,e0,hc]
  refine⟨by omega,by omega,?_⟩
  refine qi [(0,240000000)] [.own 1 (qb (lim m))] [] [.ag [.rf 0 0 (lim m).length]] rfl (by simp(disch:=omega)only[go_sem]) (by simp(disch:=omega)only[go_sem]) (by simp) (by intro _;simp[zd,AV.pu,AV.pu.puL,Ob.pu,qS]) (.inr ⟨[],rfl,by rw[List.append_nil]⟩)
theorem Yq(cl:Bool)(n:Nat)(hn:n<2^63):Con Tryz.prog 203 cl [.v (.int .i64 n)] [] (aDr n):=by
 refine Con.of_aw Tryz.func203 rfl Tryz.ntmps203 (by simp) (by simp) (by simp) (W.sound ?_)
 show @W Tryz.prog 15 ⟨_⟩ ⟨fun x σ=>@qU _ _ _ ⟨_⟩ _ ⟨_⟩ x σ⟩ _ _
 simp(disch:=omega)only[go_sem]
 refine qj (fun x:Nat×List Int=>[(0,.v (.int .i64 x.1)),(2,.pt 2 0),(3,.rf 1 0 x.2.length)]) (fun x=>[(1,.own 1 (qb x.2)),(2,.own 0 [.v (.slice none 0 0)])]) (fun x=>x.1<2^63∧x.2++lim x.1=lim n) (fun x=>x.1) (n,[]) ⟨hn,rfl⟩
  ((Le.ghost 3 1 1 (by simp(disch:=omega)only[go_sem]) (by simp(disch:=omega)only[go_sem])).trans (Le.lst [(2,40000000)] _ _ rfl (by simp(disch:=omega)only[go_sem]) (by simp(disch:=omega)only[go_sem]))) ?_
 rintro⟨k,l⟩ ⟨hk,hl⟩
 dsimp only at hk hl ⊢
 have hlen:l.length≤4:=by
  have h1:=congrArg List.length hl
  have h2:=jw (n:=n) (k:=4) |>.2 (by omega)
  rw[List.length_append]at h1;omega
 simp(disch:=omega)only[go_sem]
 refine qg (fun h1=>?_) (fun h1=>?_)
 ·simp(disch:=omega)only[go_sem,h1]
  have hk0:k≠0:=by omega
  refine⟨by omega,qc (k/65536,l++[(k:Int) % 65536]) [(1,120000000)] ⟨by show k/65536<2^63;omega,?_⟩ (by show k/65536<k;omega) rfl (by simp(disch:=omega)only[go_sem,List.length_append];try omega) (by simp(disch:=omega)only[go_sem])⟩
  rw[jO hk0]at hl
  rw[←hl,List.append_assoc];rfl
 ·simp(disch:=omega)only[go_sem,h1]
  have hk0:k=0:=by omega
  subst hk0
  rw[qm,List.append_nil]at hl
  subst hl
  refine qi [(0,1)] [.own 1 (qb (lim n++[]))] [] [.ag [.rf 0 0 (lim n).length]] rfl (by simp(disch:=omega)only[go_sem]) (by simp(disch:=omega)only[go_sem]) (by simp) (by intro _;simp[zd,AV.pu,AV.pu.puL,Ob.pu,qS]) (.inr ⟨[],rfl,rfl⟩)
end Go.Ab
namespace Go.Ab
open Go Go.Proofs
set_option maxRecDepth 100000 in
theorem apu(cl:Bool)(a b:Nat)(la:(lim a).length≤2000000)(lb:(lim b).length≤2000000):Con Tryz.prog 206 cl [.ag [.sl (lim (a)).length (qb (lim (a)))],.ag [.sl (lim (b)).length (qb (lim (b)))]] [] (aDr (a+b)):=by
 refine Con.of_aw Tryz.func206 rfl Tryz.ntmps206 (by simp) (by simp) (by simp) (W.sound ?_)
 show @W Tryz.prog 61 ⟨_⟩ ⟨fun x σ=>@qU _ _ _ ⟨_⟩ _ ⟨_⟩ x σ⟩ _ _
 simp(disch:=omega)only[go_sem]
 have hA:=q4 a
 have hB:=q4 b
 refine qj (fun x:Nat×List Int×Int=>[(2,.pt 3 0),(3,.pt 4 0),(4,.pt 2 0),(5,.rf 1 0 x.2.1.length),(6,.v (.int .i64 x.2.2)),(7,.v (.int .i64 x.1))])
  (fun x=>[(1,.own 1 (qb x.2.1)),(2,.own 0 [.v (.slice none 0 0)]),(3,.own 0 [.sl (lim (a)).length (qb (lim (a)))]),(4,.own 0 [.sl (lim (b)).length (qb (lim (b)))])])
  (fun x=>x.1≤max (lim a).length (lim b).length+1∧x.2.1.length=x.1∧gd x.2.1∧(0≤x.2.2∧x.2.2≤1)∧vl x.2.1+65536^x.1*x.2.2=vl ((lim a).take x.1)+vl ((lim b).take x.1)∧(max (lim a).length (lim b).length<x.1→x.2.2=0))
  (fun x=>2*(max (lim a).length (lim b).length-x.1)+x.2.2.toNat) (0,[],0) ⟨by simp,rfl,ZC,by simp,by simp[vl],fun h=>rfl⟩
  ((Le.ghost 5 1 1 (by simp(disch:=omega)only[go_sem]) (by simp(disch:=omega)only[go_sem])).trans (Le.lst [(2,60000000),(3,40000000),(4,50000000)] _ _ rfl (by simp(disch:=omega)only[go_sem]) (by simp(disch:=omega)only[go_sem]))) ?_
 rintro⟨i,out,cy⟩ ⟨hi,hol,hog,hcy,hov,hcz⟩
 dsimp only at hi hol hog hcy hov hcz ⊢
 have hx:=qH hA i
 have hy:=qH hB i
 have hxz:¬(i:Int)<(lim a).length→(lim a).getD i 0=0:=fun h=>by rw[List.getD_eq_getElem?_getD,List.getElem?_eq_none (by omega)];rfl
 have hyz:¬(i:Int)<(lim b).length→(lim b).getD i 0=0:=fun h=>by rw[List.getD_eq_getElem?_getD,List.getElem?_eq_none (by omega)];rfl
 have hstep:∀q:Int,q=cy+(lim a).getD i 0+(lim b).getD i 0→vl (out++[q % 65536])+65536^(i+1)*(q/65536)=vl ((lim a).take (i+1))+vl ((lim b).take (i+1)):=by
  intro q hq
  rw[jk,qO,qO,hol,Int.pow_succ]
  have e3:q % 65536+65536*(q/65536)=q:=Int.emod_add_mul_ediv q 65536
  generalize (65536:Int)^i=Pi at*
  grind
 have key:∀q:Int,q=cy+(lim a).getD i 0+(lim b).getD i 0→(i:Int)<(lim a).length∨(i:Int)<(lim b).length∨0<cy→
   ((i+1≤max (lim a).length (lim b).length+1∧(out++[q % 65536]).length=i+1∧gd (out++[q % 65536])∧(0≤q/65536∧q/65536≤1)∧vl (out++[q % 65536])+65536^(i+1)*(q/65536)=vl ((lim a).take (i+1))+vl ((lim b).take (i+1))∧(max (lim a).length (lim b).length<i+1→q/65536=0))∧
   2*(max (lim a).length (lim b).length-(i+1))+(q/65536).toNat<2*(max (lim a).length (lim b).length-i)+cy.toNat):=by
  intro q hq hc
  have hle:i≤max (lim a).length (lim b).length:=by
   rcases Nat.lt_or_ge (max (lim a).length (lim b).length) i with h|h
   ·have:=hcz h;omega
   ·exact h
  have hbig:max (lim a).length (lim b).length<i+1→q/65536=0:=fun h=>by
   have:=hxz (by omega)
   have:=hyz (by omega)
   omega
  refine⟨⟨by omega,by simp[hol],qD.2 ⟨hog,zH.2 (by omega)⟩,by omega,hstep q hq,hbig⟩,?_⟩
  by_cases hm:max (lim a).length (lim b).length<i+1
  ·have:=hbig hm;omega
  ·omega
 by_cases h1:(i:Int)<(lim a).length<;>by_cases h2:(i:Int)<(lim b).length
 ·simp(disch:=omega)only[go_sem,h1,h2]
  obtain⟨k1,k2⟩:=key _ rfl (.inl h1)
  refine⟨by omega,by omega,by omega,by omega,by omega,qc (i+1,out++[(cy+(lim a).getD i 0+(lim b).getD i 0) % 65536],(cy+(lim a).getD i 0+(lim b).getD i 0)/65536) [(1,580000000)] k1 k2 rfl (by simp(disch:=omega)only[go_sem,List.length_append];try omega) (by simp(disch:=omega)only[go_sem])⟩
 ·simp(disch:=omega)only[go_sem,h1,h2]
  have e0:cy+(lim a).getD i 0=cy+(lim a).getD i 0+(lim b).getD i 0:=by rw[hyz h2];omega
  obtain⟨k1,k2⟩:=key (cy+(lim a).getD i 0) e0 (.inl h1)
  refine⟨by omega,by omega,by omega,qc (i+1,out++[(cy+(lim a).getD i 0) % 65536],(cy+(lim a).getD i 0)/65536) [(1,580000000)] k1 k2 rfl (by simp(disch:=omega)only[go_sem,List.length_append];try omega) (by simp(disch:=omega)only[go_sem])⟩
 ·simp(disch:=omega)only[go_sem,h1,h2]
  have e0:cy+(lim b).getD i 0=cy+(lim a).getD i 0+(lim b).getD i 0:=by rw[hxz h1];omega
  obtain⟨k1,k2⟩:=key (cy+(lim b).getD i 0) e0 (.inr (.inl h2))
  refine⟨by omega,by omega,by omega,qc (i+1,out++[(cy+(lim b).getD i 0) % 65536],(cy+(lim b).getD i 0)/65536) [(1,580000000)] k1 k2 rfl (by simp(disch:=omega)only[go_sem,List.length_append];try omega) (by simp(disch:=omega)only[go_sem])⟩
 ·by_cases h3:0<cy
  ·simp(disch:=omega)only[go_sem,h1,h2,h3]
   have e0:cy=cy+(lim a).getD i 0+(lim b).getD i 0:=by rw[hxz h1,hyz h2];omega
   obtain⟨k1,k2⟩:=key cy e0 (.inr (.inr h3))
   refine⟨by omega,qc (i+1,out++[cy % 65536],cy/65536) [(1,580000000)] k1 k2 rfl (by simp(disch:=omega)only[go_sem,List.length_append];try omega) (by simp(disch:=omega)only[go_sem])⟩
  ·have hcy0:cy=0:=by omega
   have hov2:vl out=((a+b:Nat):Int):=by
    rw[List.take_of_length_le (by omega),List.take_of_length_le (by omega),qZ,qZ,hcy0]at hov
    simp at hov;omega
   simp(disch:=omega)only[go_sem,h1,h2,h3]
   refine qz (jj true out (a+b) (by omega) hog hov2) (by simp(disch:=omega)only[go_sem]) ?_
   rintro r hs (⟨h0,rfl,rfl⟩|⟨zs,rfl,rfl⟩)
   ·refine⟨⟨by simp,by simp(disch:=omega)only[go_sem]⟩,?_⟩
    simp(disch:=omega)only[go_sem]
    refine qi [] [] [] [.ag [.v (.slice none 0 0)]] rfl (by simp(disch:=omega)only[go_sem]) (by simp(disch:=omega)only[go_sem]) (by simp) (by intro _;simp[zd,AV.pu,AV.pu.puL,Ob.pu,qS]) (.inl ⟨h0,rfl,rfl⟩)
   ·refine⟨⟨by simp,by simp(disch:=omega)only[go_sem]⟩,?_⟩
    simp(disch:=omega)only[go_sem]
    refine qi [(0,620000000)] [.own 1 (qb (lim (a+b)++zs))] [] [.ag [.rf 0 0 (lim (a+b)).length]] rfl (by simp(disch:=omega)only[go_sem]) (by simp(disch:=omega)only[go_sem]) (by simp) (by intro _;simp[zd,AV.pu,AV.pu.puL,Ob.pu,qS]) (.inr ⟨zs,rfl,rfl⟩)
end Go.Ab
namespace Go.Ab
open Go Go.Proofs
set_option maxRecDepth 100000 in
theorem aiU(cl:Bool)(A:List Int)(hA:gd A)(b:Nat)(lA:A.length≤1000000)(lB:(lim b).length≤1000000)(m:Nat)(hm:vl A*(b:Int)=(m:Int)):
  Con Tryz.prog 265 cl [.ag [.sl A.length (qb A)],.ag [.sl (lim (b)).length (qb (lim (b)))]] [] (aDr m):=by
 refine Con.of_aw Tryz.func265 rfl Tryz.ntmps265 (by simp) (by simp) (by simp) (W.sound ?_)
 show @W Tryz.prog 80 ⟨_⟩ ⟨fun x σ=>@qU _ _ _ ⟨_⟩ _ ⟨_⟩ x σ⟩ _ _
 have hvb:=qZ b
 have hB:=q4 b
 generalize lim b=B at*
 simp(disch:=omega)only[go_sem]
 refine⟨by omega,?_⟩
 refine qj (fun x:Nat×List Int=>[(2,.pt 0 0),(3,.pt 1 0),(4,.pt 2 0),(5,.rf 3 0 (A.length+B.length)),(6,.v (.int .i64 x.1))])
  (fun x=>[(0,.own 0 [.sl A.length (qb A)]),(1,.own 0 [.sl B.length (qb B)]),(2,.own 0 [.v (.slice none 0 0)]),(3,.own 1 (qb x.2))])
  (fun x=>x.1≤A.length∧x.2.length=A.length+B.length∧gd x.2∧vl x.2=vl (A.take x.1)*vl B∧∀j,x.1+B.length≤j→x.2.getD j 0=0)
  (fun x=>A.length-x.1) (0,List.replicate (A.length+B.length) 0) ⟨by simp,by simp,zi _,by simp[zE,vl],fun j _=>by
   rw[List.getD_eq_getElem?_getD,List.getElem?_replicate];split<;>rfl⟩
  (Le.lst [(0,40000000),(1,50000000),(2,60000000),(3,190000000)] _ _ rfl (by simp(disch:=omega)only[go_sem];try omega) (by simp(disch:=omega)only[go_sem,show((A.length:Int)+(B.length:Int)).toNat=A.length+B.length by omega])) ?_
 rintro⟨i,out⟩ ⟨hi,hol,hog,hov,hoz⟩
 dsimp only at hi hol hog hov hoz ⊢
 simp(disch:=omega)only[go_sem]
 refine qg (fun h1=>?_) (fun h1=>?_)
 ·have hx:=qH hA i
  simp(disch:=omega)only[go_sem,h1]
  refine qj (fun x:Nat×List Int×Int=>[(2,.pt 0 0),(3,.pt 1 0),(4,.pt 2 0),(5,.rf 3 0 (A.length+B.length)),(6,.v (.int .i64 i)),(7,.v (.int .i64 x.2.2)),(8,.v (.int .i64 x.1))])
   (fun x=>[(0,.own 0 [.sl A.length (qb A)]),(1,.own 0 [.sl B.length (qb B)]),(2,.own 0 [.v (.slice none 0 0)]),(3,.own 1 (qb x.2.1))])
   (fun x=>x.1≤B.length∧x.2.1.length=A.length+B.length∧gd x.2.1∧(0≤x.2.2∧x.2.2<65536)∧vl x.2.1+65536^(i+x.1)*x.2.2=vl out+65536^i*(A.getD i 0*vl (B.take x.1))∧∀j,i+B.length≤j→x.2.1.getD j 0=0)
   (fun x=>B.length-x.1) (0,out,0) ⟨by simp,hol,hog,by simp,by simp[vl],hoz⟩
   (Le.lst [] _ _ rfl (by simp(disch:=omega)only[go_sem];try omega) (by simp(disch:=omega)only[go_sem])) ?_
  rintro⟨j,o2,cy⟩ ⟨hj,hol2,hog2,hcy,hov2,hoz2⟩
  dsimp only at hj hol2 hog2 hcy hov2 hoz2 ⊢
  simp(disch:=omega)only[go_sem]
  refine qg (fun h2=>?_) (fun h2=>?_)
  ·have hy:=qH hB j
   have ho:=qH hog2 (i+j)
   have hxy:=aof hx hy
   have e1:((i:Int)+(j:Int)).toNat=i+j:=by omega
   simp(disch:=omega)only[go_sem,h2]
   refine qp rfl [⟨0,[],[]⟩,⟨1,[],[]⟩,⟨2,[],[]⟩,⟨3,[],[]⟩,⟨4,[],[]⟩,⟨5,[],[]⟩,⟨6,[5],[]⟩,⟨7,[5],[]⟩,⟨8,[5,7],[]⟩,⟨9,[5],[]⟩,⟨10,[5],[]⟩,⟨11,[5,7,10],[]⟩,⟨12,[5,7,10],[]⟩,⟨13,[5,7,10,12],[]⟩,⟨14,[5,7,10],[]⟩,⟨15,[5,7,10],[]⟩,⟨16,[5],[]⟩,⟨17,[],[]⟩,⟨18,[5,7,10,12,15],[]⟩,⟨19,[],[]⟩,⟨20,[],[]⟩] (by kernel_rfl) ?_
   simp(disch:=omega)only[go_sem,e1]
   generalize hq:o2.getD (i+j) 0+A.getD i 0*B.getD j 0+cy=q
   refine⟨by omega,by omega,by omega,by omega,by omega,by omega,by omega,by omega,qc (j+1,o2.set (i+j) (q % 65536),q/65536) [] ⟨by show j+1≤_;omega,by simp[hol2],yA hog2 (by omega),by show 0≤q/65536∧q/65536<65536;omega,?_,fun k hk=>?_⟩
    (by show B.length-(j+1)<B.length-j;omega) rfl (by simp(disch:=omega)only[go_sem];try omega) (by simp(disch:=omega)only[go_sem])⟩
   ·show vl (o2.set (i+j) (q % 65536))+65536^(i+(j+1))*(q/65536)=vl out+65536^i*(A.getD i 0*vl (B.take (j+1)))
    rw[QA (by omega),zW (by omega),←Nat.add_assoc,Int.pow_succ]
    have e2:(65536:Int)^(i+j)=65536^i*65536^j:=Int.pow_add _ _ _
    have e3:q % 65536+65536*(q/65536)=q:=Int.emod_add_mul_ediv q 65536
    rw[e2]at hov2 ⊢
    generalize (65536:Int)^i=Pi at*
    generalize (65536:Int)^j=Pj at*
    grind
   ·show(o2.set (i+j) (q % 65536)).getD k 0=0
    rw[List.getD_eq_getElem?_getD,List.getElem?_set_ne (by omega),←List.getD_eq_getElem?_getD]
    exact hoz2 k hk
  ·simp(disch:=omega)only[go_sem,h2]
   have e1:((i:Int)+(B.length:Int)).toNat=i+B.length:=by omega
   have hjB:j=B.length:=by omega
   subst hjB
   rw[List.take_length]at hov2
   have hz:=hoz2 (i+B.length) (Nat.le_refl _)
   refine qp rfl [⟨0,[],[]⟩,⟨1,[],[]⟩,⟨2,[],[]⟩,⟨3,[],[]⟩,⟨4,[],[]⟩,⟨5,[],[]⟩,⟨6,[3],[]⟩,⟨7,[3],[]⟩,⟨8,[3],[]⟩,⟨9,[3],[]⟩,⟨10,[3],[]⟩,⟨11,[3],[]⟩,⟨12,[3],[]⟩,⟨13,[3],[]⟩,⟨14,[3,9,13],[]⟩,⟨15,[3],[]⟩,⟨16,[],[]⟩,⟨17,[],[]⟩] (by kernel_rfl) ?_
   simp(disch:=omega)only[go_sem,e1,hz]
   have e0:(0:Int)+cy=cy:=by omega
   refine⟨by omega,by omega,by omega,by omega,qc (i+1,o2.set (i+B.length) cy) [] ⟨by show i+1≤_;omega,by simp[hol2],yA hog2 hcy,?_,fun k hk=>?_⟩ (by show A.length-(i+1)<A.length-i;omega) rfl (by simp(disch:=omega)only[go_sem];try omega) (by simp(disch:=omega)only[go_sem,e0])⟩
   ·show vl (o2.set (i+B.length) cy)=vl (A.take (i+1))*vl B
    rw[QA (by omega),hz,zW (by omega)]
    generalize (65536:Int)^i=Pi at*
    grind
   ·show(o2.set (i+B.length) cy).getD k 0=0
    rw[List.getD_eq_getElem?_getD,List.getElem?_set_ne (by show i+B.length≠k;omega),←List.getD_eq_getElem?_getD]
    exact hoz2 k (by omega)
 ·simp(disch:=omega)only[go_sem,h1]
  have hiA:i=A.length:=by omega
  subst hiA
  rw[List.take_length,hvb,hm]at hov
  rw[←hol]
  refine qz (jj true (out) (m) (by omega) (hog) (hov)) (by simp(disch:=omega)only[go_sem]) ?_
  rintro r hs (⟨h0,rfl,rfl⟩|⟨zs,rfl,rfl⟩)
  ·refine⟨⟨by simp,by simp(disch:=omega)only[go_sem]⟩,?_⟩
   simp(disch:=omega)only[go_sem]
   refine qi [] [] [] [.ag [.v (.slice none 0 0)]] rfl (by simp(disch:=omega)only[go_sem]) (by simp(disch:=omega)only[go_sem]) (by simp) (by intro _;simp[zd,AV.pu,AV.pu.puL,Ob.pu,qS]) (.inl ⟨h0,rfl,rfl⟩)
  ·refine⟨⟨by simp,by simp(disch:=omega)only[go_sem]⟩,?_⟩
   simp(disch:=omega)only[go_sem]
   refine qi [(0,810000000)] [.own 1 (qb (lim (m)++zs))] [] [.ag [.rf 0 0 (lim (m)).length]] rfl (by simp(disch:=omega)only[go_sem]) (by simp(disch:=omega)only[go_sem]) (by simp) (by intro _;simp[zd,AV.pu,AV.pu.puL,Ob.pu,qS]) (.inr ⟨zs,rfl,rfl⟩)
end Go.Ab
namespace Go.Ab
open Go Go.Proofs
def aNK(m:Nat)(r0:Int):AV→List Ob→List Ob→Prop:=fun r hs bs=>
 (m=0∧r=.tu [.ag [.v (.slice none 0 0)],.v (.int .i64 r0)]∧hs=[])∨∃zs,r=.tu [.ag [.rf 0 0 (lim m).length],.v (.int .i64 r0)]∧hs=[.own 1 (qb (lim m++zs))]
theorem Con.natF2{P:Program}{f:FuncId}{args:List AV}{m:Nat}{r0:Int}(h:Con P f false args [] (aNK m r0)):Con P f false args [] (isA (.tu [.ag [.sl (lim (m)).length (qb (lim (m)))],.v (.int .i64 r0)])):=
 Con.frzA <| h.mono fun r hs bs h=>by
  rcases h with⟨rfl,rfl,rfl⟩|⟨zs,rfl,rfl⟩
  ·show qE _ 6 _=_
   rw[qm];rfl
  ·show qE _ 6 _=_
   rw[JR,List.map_cons,List.map_cons,List.map_nil,acO,List.map_cons,List.map_nil,jJ (k:=2) (l:=lim m) (zs:=zs) ze rfl]
   rfl
theorem KN(cl:Bool)(A:List Int)(d:Nat)(hA:gd A)(lA:A.length≤1000000)(hd:0<d)(hd2:d<65536)(m:Nat)(hm:vl A/(d:Int)=(m:Int)):
  Con Tryz.prog 279 cl [.ag [.sl A.length (qb A)],.v (.int .i64 d)] [] (aNK m (vl A % d)):=by
 refine Con.of_aw Tryz.func279 rfl Tryz.ntmps279 (by simp) (by simp) (by simp) (W.sound ?_)
 show @W Tryz.prog 42 ⟨_⟩ ⟨fun x σ=>@qU _ _ _ ⟨_⟩ _ ⟨_⟩ x σ⟩ _ _
 simp(disch:=omega)only[go_sem]
 refine⟨by omega,?_⟩
 refine qj (fun x:Nat×List Int×Int=>[(1,.v (.int .i64 d)),(2,.pt 0 0),(4,.pt 1 0),(6,.rf 2 0 A.length),(7,.v (.int .i64 x.2.2)),(8,.v (.int .i64 ((x.1:Int)-1)))])
  (fun x=>[(0,.own 0 [.sl A.length (qb A)]),(1,.own 0 [.v (.slice none 0 0)]),(2,.own 1 (qb x.2.1))])
  (fun x=>x.1≤A.length∧x.2.1.length=A.length∧gd x.2.1∧x.2.2=vl (A.drop x.1) % d∧vl (x.2.1.drop x.1)=vl (A.drop x.1)/d)
  (fun x=>x.1) (A.length,List.replicate A.length 0,0) ⟨Nat.le_refl _,by simp,zi _,by simp[vl],by simp[vl]⟩
  (Le.lst [(0,40000000),(1,60000000),(2,150000000)] _ _ rfl (by simp(disch:=omega)only[go_sem,List.length_replicate];try omega) (by simp(disch:=omega)only[go_sem])) ?_
 rintro⟨k,out,rest⟩ ⟨hk,hol,hog,hr,hov⟩
 dsimp only at hk hol hog hr hov ⊢
 have hr0:0≤rest∧rest<d:=by rw[hr];exact⟨Int.emod_nonneg _ (by omega),Int.emod_lt_of_pos _ (by omega)⟩
 simp(disch:=omega)only[go_sem]
 refine qg (fun h1=>?_) (fun h1=>?_)
 ·obtain⟨i,rfl⟩:∃i,k=i+1:=⟨k-1,by omega⟩
  have ei:((i+1:Nat):Int)-1=(i:Nat):=by omega
  have hx:=qH hA i
  have hq6:0≤(rest*65536+A.getD i 0)/d∧(rest*65536+A.getD i 0)/d<65536:=by
   refine⟨Int.ediv_nonneg (by omega) (by omega),Int.ediv_lt_of_lt_mul (by omega) ?_⟩
   have:rest+1≤(d:Int):=by omega
   have:=Int.mul_le_mul_of_nonneg_left this (show(0:Int)≤65536 by omega)
   omega
  simp(disch:=omega)only[go_sem,h1,ei]
  generalize hq:rest*65536+A.getD i 0=q at*
  refine⟨by omega,by omega,by omega,by omega,by omega,by omega,qc (i,out.set i (q/d),q % d) [] ⟨by show i≤_;omega,by simp[hol],yA hog hq6,?_,?_⟩ (by show i<i+1;omega) rfl (by simp(disch:=omega)only[go_sem];try omega) (by simp(disch:=omega)only[go_sem])⟩
  ·show q % d=vl (A.drop i) % d
   rw[zr (l:=A) (i:=i) (by omega),←hq,hr]
   have h3:=Int.emod_add_mul_ediv (vl (A.drop (i+1))) d
   rw[show A.getD i 0+65536*vl (A.drop (i+1))=vl (A.drop (i+1)) % d*65536+A.getD i 0+d*(65536*(vl (A.drop (i+1))/d)) by grind,Int.add_mul_emod_self_left]
  ·show vl ((out.set i (q/d)).drop i)=vl (A.drop i)/d
   rw[drop_set (by omega),vl,hov,zr (l:=A) (i:=i) (by omega),←hq,hr]
   have h3:=Int.emod_add_mul_ediv (vl (A.drop (i+1))) d
   rw[show A.getD i 0+65536*vl (A.drop (i+1))=vl (A.drop (i+1)) % d*65536+A.getD i 0+d*(65536*(vl (A.drop (i+1))/d)) by grind,Int.add_mul_ediv_left _ _ (by omega)]
 ·simp(disch:=omega)only[go_sem,h1]
  have:k=0:=by omega
  subst this
  rw[List.drop_zero,List.drop_zero,hm]at hov
  rw[List.drop_zero]at hr
  rw[←hol]
  refine qz (jj true out m (by omega) hog hov) (by simp(disch:=omega)only[go_sem]) ?_
  rintro r hs (⟨h0,rfl,rfl⟩|⟨zs,rfl,rfl⟩)
  ·refine⟨⟨by simp,by simp(disch:=omega)only[go_sem]⟩,?_⟩
   simp(disch:=omega)only[go_sem]
   rw[hr]
   refine qi [] [] [] [.ag [.v (.slice none 0 0)],.v (.int .i64 (vl A % d))] rfl (by simp(disch:=omega)only[go_sem]) (by simp(disch:=omega)only[go_sem]) (by simp) (by intro _;simp[zd,AV.pu,AV.pu.puL,Ob.pu,qS]) (.inl ⟨h0,rfl,rfl⟩)
  ·refine⟨⟨by simp,by simp(disch:=omega)only[go_sem]⟩,?_⟩
   simp(disch:=omega)only[go_sem]
   rw[hr]
   refine qi [(0,420000000)] [.own 1 (qb (lim m++zs))] [] [.ag [.rf 0 0 (lim m).length],.v (.int .i64 (vl A % d))] rfl (by simp(disch:=omega)only[go_sem]) (by simp(disch:=omega)only[go_sem]) (by simp) (by intro _;simp[zd,AV.pu,AV.pu.puL,Ob.pu,qS]) (.inr ⟨zs,rfl,rfl⟩)
/-! ### Shifts-/
theorem anJ{k:Nat}(hk:k<16):IntKind.i64.wrap (1*2^(min ((k:Int)).toNat 64))=((2^k:Nat):Int):=by
 have e:min ((k:Int)).toNat 64=k:=by omega
 rw[e,Int.one_mul]
 have h:=jX k hk
 rw[ajs (by omega) (by omega),Int.natCast_pow];rfl
theorem apt(cl:Bool)(a k:Nat)(la:(lim a).length≤400000)(hk:k≤5000000):Con Tryz.prog 235 cl [.ag [.sl (lim (a)).length (qb (lim (a)))],.v (.int .i64 k)] [] (aDr (a*2^k)):=by
 refine Con.of_aw Tryz.func235 rfl Tryz.ntmps235 (by simp) (by simp) (by simp) (W.sound ?_)
 show @W Tryz.prog 22 ⟨_⟩ ⟨fun x σ=>@qU _ _ _ ⟨_⟩ _ ⟨_⟩ x σ⟩ _ _
 have hz:((lim a).length:Int)=0→a=0:=fun h=>qF.1 (List.length_eq_zero_iff.1 (by omega))
 have hvA:=qZ a
 have gA:=q4 a
 generalize hLA:lim a=A at*
 simp(disch:=omega)only[go_sem]
 refine qg (fun h1=>?_) (fun h1=>?_)
 ·simp(disch:=omega)only[go_sem,h1]
  have h0:=hz h1
  subst h0
  refine qi [] [] [] [.ag [.v (.slice none 0 0)]] rfl (by simp(disch:=omega)only[go_sem]) (by simp(disch:=omega)only[go_sem]) (by simp) (by intro _;simp[zd,AV.pu,AV.pu.puL,Ob.pu,qS]) (.inl ⟨by simp,rfl,rfl⟩)
 ·simp(disch:=omega)only[go_sem,h1]
  refine qp rfl [⟨0,[],[]⟩,⟨1,[],[]⟩,⟨3,[],[]⟩,⟨4,[],[]⟩,⟨7,[4],[]⟩,⟨8,[4],[]⟩,⟨9,[4],[]⟩,⟨2,[4],[]⟩,⟨5,[],[]⟩,⟨6,[],[]⟩,⟨10,[],[]⟩,⟨11,[],[]⟩,⟨12,[],[]⟩] (by kernel_rfl) ?_
  have e16:((k:Int)/16).toNat=k/16:=by omega
  have e17:(k:Int) % 16=((k % 16:Nat):Int):=by omega
  have es:IntKind.i64.wrap (1*2^(min ((k:Int) % 16).toNat 64))=((2^(k % 16):Nat):Int):=by rw[e17];exact anJ (by omega)
  have hp15:2^(k % 16)≤2^15:=Nat.pow_le_pow_right (by omega) (by omega)
  have ecut:(List.replicate (k/16) (0:Int)).take (k/16)=List.replicate (k/16) 0:=List.take_of_length_le (by simp)
  simp(disch:=omega)only[go_sem,e16,ecut,es]
  refine⟨by omega,by omega,by simp;omega,?_⟩
  refine qa ((Yq false (2^(k % 16)) (by omega)).natF) ?_
  simp(disch:=omega)only[go_sem]
  have hvA2:vl (List.replicate (k/16) 0++A)*((2^(k % 16):Nat):Int)=((a*2^k:Nat):Int):=by
   rw[yN,zE,hvA,List.length_replicate]
   have h2:a*2^k=65536^(k/16)*a*2^(k % 16):=by
    have:2^k=65536^(k/16)*2^(k % 16):=by rw[Zm,←Nat.pow_add,Nat.div_add_mod]
    rw[this];grind
   rw[h2,Int.natCast_mul,Int.natCast_mul,Int.natCast_pow]
   simp
  have gA2:gd (List.replicate (k/16) 0++A):=qD.2 ⟨zi _,gA⟩
  have lA2:(List.replicate (k/16) (0:Int)++A).length=k/16+A.length:=by simp
  have et:(List.replicate (k/16) (0:Int)++A).take (k/16+A.length)=List.replicate (k/16) 0++A:=List.take_of_length_le (by simp)
  have l2s:(lim (2^(k % 16))).length≤1000000:=by
   have:=qB (m:=2^(k % 16)) (B:=16) (zq.2 (by omega));omega
  refine qz (aiU true (List.replicate (k/16) 0++A) gA2 (2^(k % 16)) (by omega) l2s (a*2^k) hvA2) (by simp(disch:=omega)only[go_sem,lA2,et]) ?_
  rintro r hs (⟨h0,rfl,rfl⟩|⟨zs,rfl,rfl⟩)
  ·refine⟨⟨by simp,by simp(disch:=omega)only[go_sem]⟩,?_⟩
   simp(disch:=omega)only[go_sem]
   refine qi [] [] [] [.ag [.v (.slice none 0 0)]] rfl (by simp(disch:=omega)only[go_sem]) (by simp(disch:=omega)only[go_sem]) (by simp) (by intro _;simp[zd,AV.pu,AV.pu.puL,Ob.pu,qS]) (.inl ⟨h0,rfl,rfl⟩)
  ·refine⟨⟨by simp,by simp(disch:=omega)only[go_sem]⟩,?_⟩
   simp(disch:=omega)only[go_sem]
   refine qi [(0,230000000)] [.own 1 (qb (lim (a*2^k)++zs))] [] [.ag [.rf 0 0 (lim (a*2^k)).length]] rfl (by simp(disch:=omega)only[go_sem]) (by simp(disch:=omega)only[go_sem]) (by simp) (by intro _;simp[zd,AV.pu,AV.pu.puL,Ob.pu,qS]) (.inr ⟨zs,rfl,rfl⟩)
end Go.Ab
namespace Go.Ab
open Go Go.Proofs
theorem apr(a k:Nat)(la:(lim a).length≤1000000)(hk:k≤100000000):Con Tryz.prog 234 false [.ag [.sl (lim (a)).length (qb (lim (a)))],.v (.int .i64 k)] [] (isA (.ag [.sl (lim (a/2^k)).length (qb (lim (a/2^k)))])):=by
 refine Con.frzA ?_
 refine Con.of_aw Tryz.func234 rfl Tryz.ntmps234 (by simp) (by simp) (by simp) (W.sound ?_)
 show @W Tryz.prog 28 ⟨_⟩ ⟨fun x σ=>@qU _ _ _ ⟨_⟩ _ ⟨_⟩ x σ⟩ _ _
 simp(disch:=omega)only[go_sem]
 refine qg (fun h1=>?_) (fun h1=>?_)
 ·simp(disch:=omega)only[go_sem,h1]
  have h0:a/2^k=0:=by
   refine Nat.div_eq_of_lt (Nat.lt_of_lt_of_le (Zs a) ?_)
   rw[Zm];exact Nat.pow_le_pow_right (by omega) (by omega)
  rw[h0,qm]
  exact qk
 ·simp(disch:=omega)only[go_sem,h1]
  refine qp rfl [⟨0,[],[]⟩,⟨1,[],[]⟩,⟨2,[1],[]⟩,⟨3,[1],[]⟩,⟨4,[],[]⟩,⟨5,[],[]⟩,⟨6,[1,4],[]⟩,⟨7,[1,4],[]⟩,⟨8,[1,4],[]⟩,⟨13,[1,4],[]⟩,⟨9,[],[70000000]⟩,⟨10,[],[70000000]⟩,⟨11,[],[70000000]⟩,⟨12,[],[70000000]⟩,⟨14,[],[]⟩,⟨15,[],[]⟩] (by kernel_rfl) ?_
  have e16:((k:Int)/16).toNat=k/16:=by omega
  have e17:(k:Int) % 16=((k % 16:Nat):Int):=by omega
  have e18:(((lim a).length:Int)-(k:Int)/16).toNat=((lim a).drop (k/16)).length:=by simp;omega
  have es:IntKind.i64.wrap (1*2^(min ((k:Int) % 16).toNat 64))=((2^(k % 16):Nat):Int):=by rw[e17];exact anJ (by omega)
  have hp15:2^(k % 16)≤2^15:=Nat.pow_le_pow_right (by omega) (by omega)
  have hp0:0<2^(k % 16):=Nat.pow_pos (by omega)
  have hvD:=adK (q4 a) (i:=k/16) (by omega)
  have gD:=j4 (q4 a) (k/16)
  have hlD:((lim a).drop (k/16)).length≤1000000:=by simp;omega
  have hm:vl ((lim a).drop (k/16))/((2^(k % 16):Nat):Int)=((a/2^k:Nat):Int):=by
   rw[←hvD,qZ]
   have:a/2^k=a/65536^(k/16)/2^(k % 16):=by rw[Nat.div_div_eq_div_mul,Zm,←Nat.pow_add,Nat.div_add_mod]
   rw[this,Int.natCast_ediv,Int.natCast_ediv,Int.natCast_pow 65536];rfl
  have et:((lim a).drop (k/16)).take ((lim a).drop (k/16)).length=(lim a).drop (k/16):=List.take_length
  simp(disch:=omega)only[go_sem,e16,e18,et,es]
  generalize (lim a).drop (k/16)=D at*
  refine⟨by omega,by omega,?_⟩
  refine qa ((KN false D (2^(k % 16)) gD hlD hp0 (by omega) (a/2^k) hm).natF2) ?_
  simp(disch:=omega)only[go_sem]
  exact qk
theorem aLF(a:Nat)(la:(lim a).length≤2^40):Con Tryz.prog 290 true [.ag [.sl (lim (a)).length (qb (lim (a)))]] [] (isA (.v (.int .i64 (bl a)))):=by
 refine Con.of_aw Tryz.func290 rfl Tryz.ntmps290 (by simp) (by simp) (by simp) (W.sound ?_)
 show @W Tryz.prog 29 ⟨_⟩ ⟨fun x σ=>@qU _ _ _ ⟨_⟩ _ ⟨_⟩ x σ⟩ _ _
 simp(disch:=omega)only[go_sem]
 refine qg (fun h1=>?_) (fun h1=>?_)
 ·simp(disch:=omega)only[go_sem,h1]
  have:a=0:=qF.1 (List.length_eq_zero_iff.1 (by omega))
  subst this
  rw[yM]
  exact qy
 ·have hm:a≠0:=fun e=>by rw[e,qm]at h1;simp at h1
  have e2:(((lim a).length:Int)-1).toNat=(lim a).length-1:=by omega
  have ht:=Zt hm
  have hb:=ap3 hm
  have eq:(lim a).getD ((lim a).length-1) 0=((a/65536^((lim a).length-1):Nat):Int):=by rw[zF,Nat.mod_eq_of_lt ht.2]
  generalize a/65536^((lim a).length-1)=q at*
  simp(disch:=omega)only[go_sem,h1,e2,eq]
  refine⟨by omega,by omega,?_⟩
  refine qj (fun x:Nat×Nat=>[(3,.v (.int .i64 x.1)),(4,.v (.int .i64 x.2))]) (fun _=>[]) (fun x=>x.1+bl x.2=bl a∧x.2<65536∧x.1≤2^45) (fun x=>x.2) (16*((lim a).length-1),q) ⟨hb.symm,ht.2,by show 16*((lim a).length-1)≤2^45;omega⟩ (Le.lst [] _ _ rfl (by simp(disch:=omega)only[go_sem];try omega) (by simp(disch:=omega)only[go_sem])) ?_
  rintro⟨n,x⟩ ⟨hn,hx,hn2⟩
  dsimp only at hn hx hn2 ⊢
  simp(disch:=omega)only[go_sem]
  refine qg (fun h2=>?_) (fun h2=>?_)
  ·simp(disch:=omega)only[go_sem,h2]
   have hd:=aDM (x:=x) (by omega)
   have hp:=zq.2 (show x<2^16 by omega)
   refine qc (n+1,x/2) [] ⟨by show n+1+bl (x/2)=bl a;omega,by show x/2<65536;omega,?_⟩ (by show x/2<x;omega) rfl (by simp(disch:=omega)only[go_sem];try omega) (by simp(disch:=omega)only[go_sem])
   show n+1≤2^45
   have:=K5 (m:=a)
   omega
  ·simp(disch:=omega)only[go_sem,h2]
   have:x=0:=by omega
   subst this
   rw[yM]at hn
   refine qx (by simp(disch:=omega)only[go_sem]) (by simp(disch:=omega)only[go_sem]) ⟨?_,rfl,rfl⟩
   simp[zd];omega
theorem KO(m:Nat)(i:Int)(hl:(lim m).length≤2^40)(hi:0≤i)(hi2:i<2^62):Con Tryz.prog 138 true [.ag [.sl (lim (m)).length (qb (lim (m)))],.v (.int .i64 i)] [] (isA (.v (.int .i64 ((m/2^i.toNat % 2:Nat):Int)))):=by
 refine Con.of_w (rs:=[.tmp 4]) Tryz.func138 rfl Tryz.ntmps138 rfl ?_
 obtain⟨k,rfl⟩:=Int.eq_ofNat_of_zero_le hi
 rw[Int.toNat_natCast]
 have h0:¬((k:Int)<0):=by omega
 have e16:((k:Int)/16).toNat=k/16:=by omega
 have em:min ((k:Int) % 16).toNat 64=k % 16:=by omega
 have hb:=ap4 m k
 simp(disch:=omega)only[go_sem,h0]
 refine qg (fun h1=>?_) (fun h1=>?_)
 ·simp(disch:=omega)only[go_sem,h1]
  have:m/2^k % 2=0:=by
   rw[←hb]
   have h2:=zF m (k/16)
   rw[List.getD_eq_getElem?_getD,List.getElem?_eq_none (by omega)]at h2
   have h3:m/65536^(k/16) % 65536=0:=by simp only[Option.getD_none]at h2;omega
   rw[h3];simp
  rw[this]
  exact qy
 ·have hx:=qH (q4 m) (k/16)
  have hp:(0:Int)<2^(k % 16):=Int.pow_pos (by omega)
  have efd:∀x:Int,x.fdiv (2^(k % 16))=x/2^(k % 16):=fun x=>Int.fdiv_eq_ediv_of_nonneg _ (Int.le_of_lt hp)
  have hq:0≤(lim m).getD (k/16) 0/2^(k % 16)∧(lim m).getD (k/16) 0/2^(k % 16)<65536:=by
   refine⟨Int.ediv_nonneg hx.1 (Int.le_of_lt hp),Int.lt_of_le_of_lt (Int.ediv_le_self _ hx.1) hx.2⟩
  have hr:(lim m).getD (k/16) 0/2^(k % 16) % 2=((m/2^k % 2:Nat):Int):=by
   rw[←hb,zF]
   generalize m/65536^(k/16) % 65536=x
   rw[Int.natCast_emod,Int.natCast_ediv,Int.natCast_pow];rfl
  simp(disch:=omega)only[go_sem,h1,e16,em,efd,hr]
  refine⟨by omega,by omega,by omega,?_⟩
  exact qy
theorem aqz{m i:Nat}(hz:∀j,j<i→m/2^j % 2=0)(h1:m/2^i % 2=1):tz m=i:=by
 have key:∀k,k≤i→2^k*(m/2^k)=m:=by
  intro k
  induction k with
  |zero=>intro _;simp
  |succ k ih=>
   intro hk
   have h2:=ih (by omega)
   have h3:=hz k (by omega)
   have h4:m/2^(k+1)=m/2^k/2:=by rw[Nat.pow_succ,Nat.div_div_eq_div_mul]
   rw[h4,Nat.pow_succ,Nat.mul_assoc,show 2*(m/2^k/2)=m/2^k by omega];exact h2
 refine Q5 (a:=m/2^i/2) ?_
 have:=key i (Nat.le_refl _)
 rw[show 2*(m/2^i/2)+1=m/2^i by omega];exact this.symm
theorem adl(m:Nat)(hl:(lim m).length≤2^40):Con Tryz.prog 233 true [.ag [.sl (lim (m)).length (qb (lim (m)))]] [] (isA (.v (.int .i64 (tz m)))):=by
 refine Con.of_w (rs:=[.tmp 2]) Tryz.func233 rfl Tryz.ntmps233 rfl ?_
 simp(disch:=omega)only[go_sem]
 refine qj (fun i:Nat=>[(1,.pt 0 0),(3,.v (.int .i64 i))]) (fun _=>[(0,.own 0 [.sl (lim (m)).length (qb (lim (m)))])]) (fun i=>i≤16*(lim m).length∧∀j,j<i→m/2^j % 2=0) (fun i=>16*(lim m).length-i) 0 ⟨by omega,fun j hj=>by omega⟩ (Le.lst [(0,30000000)] _ _ rfl (by simp(disch:=omega)only[go_sem];try omega) (by simp(disch:=omega)only[go_sem])) ?_
 rintro i ⟨hi,hz⟩
 simp(disch:=omega)only[go_sem]
 refine qg (fun h1=>?_) (fun h1=>?_)
 ·simp(disch:=omega)only[go_sem,h1]
  refine qe (KO m i hl (by omega) (by omega)) ?_
  simp(disch:=omega)only[go_sem]
  refine qg (fun h2=>?_) (fun h2=>?_)
  ·simp(disch:=omega)only[go_sem,h2]
   have:=aqz hz (by omega)
   rw[this]
   exact qy
  ·simp(disch:=omega)only[go_sem,h2]
   refine qc (i+1) [] ⟨by omega,fun j hj=>?_⟩ (by show 16*(lim m).length-(i+1)<16*(lim m).length-i;omega) rfl (by simp(disch:=omega)only[go_sem];try omega) (by simp(disch:=omega)only[go_sem])
   rcases(by omega:j<i∨j=i)with h|h
   ·exact hz j h
   ·subst h;omega
 ·simp(disch:=omega)only[go_sem,h1]
  have hm:m=0:=by
   have h3:=K5 (m:=m)
   rcases Nat.eq_zero_or_pos m with h|h
   ·exact h
   ·have h4:=yO (n:=m) (by omega)
    have h5:=(yX (n:=m) (by omega)).1
    have:=hz (tz m) (by omega)
    omega
  subst hm
  rw[ajw]
  exact qy
end Go.Ab
namespace Go.Ab
open Go Go.Proofs
theorem aNQ(m:Nat):decide ((0:Int)<((lim m).length:Int))=decide (m≠0):=by
 rw[decide_eq_decide]
 exact⟨fun h e=>by rw[e,qm]at h;simp at h,fun h=>by have:=yY h;omega⟩
theorem ZO(m:Nat)(hl:(lim m).length≤2^39):Con Tryz.prog 259 false [.sl (lim (m)).length (qb (lim (m)))] [] (isA (.ag [.sl (lim (m)).length (qb (lim (m)))])):=(jj false (lim m) m hl (q4 m) (qZ m)).natF
theorem ZN(n:Nat)(hn:n<2^63):Con Tryz.prog 203 false [.v (.int .i64 n)] [] (isA (.ag [.sl (lim (n)).length (qb (lim (n)))])):=(Yq false n hn).natF
theorem JC(a b:Nat)(la:(lim a).length≤2000000)(lb:(lim b).length≤2000000):Con Tryz.prog 206 false [.ag [.sl (lim (a)).length (qb (lim (a)))],.ag [.sl (lim (b)).length (qb (lim (b)))]] [] (isA (.ag [.sl (lim (a+b)).length (qb (lim (a+b)))])):=(apu false a b la lb).natF
theorem JA(a k:Nat)(la:(lim a).length≤400000)(hk:k≤5000000):Con Tryz.prog 235 false [.ag [.sl (lim (a)).length (qb (lim (a)))],.v (.int .i64 k)] [] (isA (.ag [.sl (lim (a*2^k)).length (qb (lim (a*2^k)))])):=(apt false a k la hk).natF
theorem zf(s:Bool)(m:Nat)(hl:(lim m).length≤2^39):Con Tryz.prog 202 false [.v (.bool s),.ag [.sl (lim (m)).length (qb (lim (m)))]] [] (isA (.ag [.v (.bool (s&&decide (m≠0))),.sl (lim (m)).length (qb (lim (m)))])):=by
 refine Con.frzA ?_
 refine Con.of_w (rs:=[.cell 4 27]) Tryz.func202 rfl Tryz.ntmps202 rfl ?_
 simp(disch:=omega)only[go_sem]
 refine qp rfl [⟨0,[],[]⟩,⟨1,[],[]⟩,⟨2,[],[]⟩,⟨3,[],[]⟩,⟨4,[],[]⟩,⟨5,[],[]⟩,⟨6,[],[]⟩,⟨7,[3],[]⟩,⟨8,[3],[]⟩,⟨9,[3],[]⟩,⟨10,[],[]⟩,⟨11,[],[]⟩] (by kernel_rfl) ?_
 simp(disch:=omega)only[go_sem]
 refine yv (fun h1=>?_) (fun h1=>?_)
 ·simp(disch:=omega)only[go_sem,h1,aNQ]
  refine qa (ZO m hl) ?_
  simp(disch:=omega)only[go_sem]
  exact qk (hp:=by simp(disch:=omega)only[go_sem,h1,Bool.true_and])
 ·simp(disch:=omega)only[go_sem,h1]
  refine qa (ZO m hl) ?_
  simp(disch:=omega)only[go_sem]
  exact qk (hp:=by simp(disch:=omega)only[go_sem,h1,Bool.false_and])
theorem Yp(n:Int)(h: -9223372036854775808≤n∧n<9223372036854775808):Con Tryz.prog 129 false [.v (.int .i64 n)] [] (isA (.ag [.v (.bool (decide (n<0))),.sl (lim (n.natAbs)).length (qb (lim (n.natAbs)))])):=by
 refine Con.frzA ?_
 refine Con.of_aw Tryz.func129 rfl Tryz.ntmps129 (by simp) (by simp) (by simp) (W.sound ?_)
 show @W Tryz.prog 15 ⟨_⟩ ⟨fun x σ=>@qU _ _ _ ⟨_⟩ _ ⟨_⟩ x σ⟩ _ _
 simp(disch:=omega)only[go_sem]
 refine qg (fun h1=>?_) (fun h1=>?_)
 ·simp(disch:=omega)only[go_sem,h1]
  have e1:0-(n+1)=(((0-(n+1)).toNat:Nat):Int):=by omega
  refine qa (ZN (0-(n+1)).toNat (by omega)) ?_ (by simp(disch:=omega)only[go_sem,←e1])
  simp(disch:=omega)only[go_sem]
  refine qa (ZN 1 (by omega)) ?_
  simp(disch:=omega)only[go_sem]
  have l1:=qB (m:=(0-(n+1)).toNat) (B:=64) (zq.2 (by omega))
  have l2:=qB (m:=1) (B:=64) (by decide)
  refine qa (JC (0-(n+1)).toNat 1 (by omega) (by omega)) ?_
  simp(disch:=omega)only[go_sem]
  have e2:(0-(n+1)).toNat+1=n.natAbs:=by omega
  have l3:=qB (m:=(0-(n+1)).toNat+1) (B:=64) (zq.2 (by omega))
  refine qa (zf true ((0-(n+1)).toNat+1) (by omega)) ?_
  simp(disch:=omega)only[go_sem]
  refine qK (by simp(disch:=omega)only[go_sem]) ?_
  show qE _ 6 _=_
  have e3:decide (n.natAbs≠0)=true:=by simp;omega
  rw[e2]
  simp(disch:=omega)only[go_sem,e3,h1,Bool.true_and]
 ·simp(disch:=omega)only[go_sem,h1]
  have e1:n=((n.natAbs:Nat):Int):=by omega
  refine qa (ZN n.natAbs (by omega)) ?_ (by simp(disch:=omega)only[go_sem,←e1])
  simp(disch:=omega)only[go_sem]
  have l3:=qB (m:=n.natAbs) (B:=64) (zq.2 (by omega))
  refine qa (zf false n.natAbs (by omega)) ?_
  simp(disch:=omega)only[go_sem]
  exact qk (hp:=by simp(disch:=omega)only[go_sem,h1,Bool.false_and])
theorem Qx(s:Bool)(m:Nat)(e:Int)(hm:bl m≤8000000)(he: -2^40≤e∧e≤2^40):Con Tryz.prog 156 false [.ag [.v (.bool (s)),.sl (lim (m)).length (qb (lim (m)))],.v (.int .i64 e)] [] (isA (.ag [.v (.bool (oS s m)),.sl (lim (oM m)).length (qb (lim (oM m))),.v (.int .i64 (oE m e))])):=by
 refine Con.frzA ?_
 refine Con.of_aw Tryz.func156 rfl Tryz.ntmps156 (by simp) (by simp) (by simp) (W.sound ?_)
 show @W Tryz.prog 26 ⟨_⟩ ⟨fun x σ=>@qU _ _ _ ⟨_⟩ _ ⟨_⟩ x σ⟩ _ _
 simp(disch:=omega)only[go_sem]
 have hl:=qB hm
 refine qg (fun h1=>?_) (fun h1=>?_)
 ·simp(disch:=omega)only[go_sem,h1]
  have h0:m=0:=qF.1 (List.length_eq_zero_iff.1 (by omega))
  subst h0
  refine qK (by simp(disch:=omega)only[go_sem]) ?_
  show qE _ 6 _=_
  simp only[oS,Zr,oE,qm,if_true]
  simp(disch:=omega)only[go_sem]
 ·have h0:m≠0:=fun e=>h1 (by rw[e,qm];rfl)
  have ht:=yO h0
  simp(disch:=omega)only[go_sem,h1]
  refine qe (adl m (by omega)) ?_
  simp(disch:=omega)only[go_sem]
  refine qp rfl [⟨0,[],[]⟩,⟨1,[],[]⟩,⟨2,[1],[]⟩,⟨3,[1],[]⟩,⟨4,[1,3],[]⟩,⟨7,[1,3],[]⟩,⟨8,[1,3],[]⟩,⟨9,[1,3],[]⟩,⟨5,[1],[]⟩,⟨6,[],[]⟩,⟨10,[],[]⟩,⟨11,[],[]⟩] (by kernel_rfl) ?_
  simp(disch:=omega)only[go_sem]
  refine qa (apr m (tz m) (by omega) (by omega)) ?_
  simp(disch:=omega)only[go_sem]
  have l3:=qB (Nat.le_trans (YD m (2^tz m)) hm)
  refine qa (zf s (m/2^tz m) (by omega)) ?_
  simp(disch:=omega)only[go_sem]
  refine qK (by simp(disch:=omega)only[go_sem]) ?_
  show qE _ 6 _=_
  have h3:decide (m/2^tz m≠0)=true:=by
   have:=(yX h0).1
   simp only[decide_eq_true_eq];omega
  simp only[oS,oM,oE,if_neg h0]
  simp(disch:=omega)only[go_sem,h3,Bool.and_true]
end Go.Ab
namespace Go.Ab
open Go Go.Proofs
theorem ZP(a b:Nat)(la:(lim a).length≤2^40)(lb:(lim b).length≤2^40):
  Con Tryz.prog 236 true [.ag [.sl (lim (a)).length (qb (lim (a)))],.ag [.sl (lim (b)).length (qb (lim (b)))]] [] (isA (.v (.int .i64 (zg a b)))):=by
 refine Con.of_w (rs:=[.tmp 4]) Tryz.func236 rfl Tryz.ntmps236 rfl ?_
 simp(disch:=omega)only[go_sem]
 refine zt (fun h1=>?_) (fun h1=>?_)
 ·simp(disch:=omega)only[go_sem,h1]
  refine qg (fun h2=>?_) (fun h2=>?_)
  ·simp(disch:=omega)only[go_sem,h2]
   have:=yZ (a:=a) (b:=b) (by omega)
   rw[show zg (a:Int) (b:Int)= -1 by unfold zg;rw[if_pos (by omega)]]
   exact qy
  ·simp(disch:=omega)only[go_sem,h2]
   have:=yZ (a:=b) (b:=a) (by omega)
   rw[show zg (a:Int) (b:Int)=1 by unfold zg;rw[if_neg (by omega),if_pos (by omega)]]
   exact qy
 ·simp(disch:=omega)only[go_sem,h1]
  have hl:(lim a).length=(lim b).length:=by omega
  refine qj (fun k:Nat=>[(2,.pt 40000000 0),(3,.pt 50000000 0),(5,.v (.int .i64 ((k:Int)-1)))])
   (fun _=>[(40000000,.own 0 [.sl (lim (a)).length (qb (lim (a)))]),(50000000,.own 0 [.sl (lim (b)).length (qb (lim (b)))])]) (fun k=>k≤(lim a).length∧(lim a).drop k=(lim b).drop k) (fun k=>k) (lim a).length ⟨Nat.le_refl _,by rw[List.drop_length,hl,List.drop_length]⟩ (Le.lst [] _ _ rfl (by simp(disch:=omega)only[go_sem];try omega) (by simp(disch:=omega)only[go_sem])) ?_
  rintro k ⟨hk,hd⟩
  simp(disch:=omega)only[go_sem]
  refine qg (fun h2=>?_) (fun h2=>?_)
  ·obtain⟨i,rfl⟩:∃i,k=i+1:=⟨k-1,by omega⟩
   have ei:((i+1:Nat):Int)-1=(i:Nat):=by omega
   have hva:=qZ a
   have hvb:=qZ b
   simp(disch:=omega)only[go_sem,h2,ei]
   refine qp rfl [⟨0,[],[]⟩,⟨1,[],[]⟩,⟨2,[1],[]⟩,⟨3,[],[]⟩,⟨4,[],[]⟩,⟨5,[1,4],[]⟩,⟨6,[1,4],[]⟩,⟨7,[1,4,6],[]⟩,⟨8,[1,4],[]⟩,⟨9,[1,4],[]⟩,⟨10,[],[]⟩] (by kernel_rfl) ?_
   simp(disch:=omega)only[go_sem,ei]
   refine⟨by omega,by omega,by omega,by omega,?_⟩
   refine qg (fun h3=>?_) (fun h3=>?_)
   ·simp(disch:=omega)only[go_sem,h3]
    have:=QU (q4 a) (q4 b) (by omega) hl hd h3
    rw[show zg (a:Int) (b:Int)= -1 by unfold zg;rw[if_pos (by omega)]]
    exact qy
   ·simp(disch:=omega)only[go_sem,h3]
    refine qp rfl [⟨0,[],[]⟩,⟨1,[],[]⟩,⟨2,[1],[]⟩,⟨3,[],[]⟩,⟨4,[],[]⟩,⟨5,[1,4],[]⟩,⟨6,[1,4],[]⟩,⟨7,[1,4,6],[]⟩,⟨8,[1,4],[]⟩,⟨9,[1,4],[]⟩,⟨10,[],[]⟩] (by kernel_rfl) ?_
    simp(disch:=omega)only[go_sem,ei]
    refine⟨by omega,by omega,by omega,by omega,?_⟩
    refine qg (fun h4=>?_) (fun h4=>?_)
    ·simp(disch:=omega)only[go_sem,h4]
     have:=QU (q4 b) (q4 a) (by omega) hl.symm hd.symm h4
     rw[show zg (a:Int) (b:Int)=1 by unfold zg;rw[if_neg (by omega),if_pos (by omega)]]
     exact qy
    ·simp(disch:=omega)only[go_sem,h4]
     refine qc i [] ⟨by omega,?_⟩ (by show i<i+1;omega) rfl (by simp(disch:=omega)only[go_sem];try omega) (by simp(disch:=omega)only[go_sem])
     have h5:(lim a).getD i 0=(lim b).getD i 0:=by omega
     rw[j8 (l:=lim a) (by omega),j8 (l:=lim b) (by omega),h5,hd]
  ·simp(disch:=omega)only[go_sem,h2]
   have:k=0:=by omega
   subst this
   rw[List.drop_zero,List.drop_zero]at hd
   have:=j1 hd
   subst this
   rw[show zg (a:Int) (a:Int)=0 by simp[zg]]
   exact qy
theorem apq(cl:Bool)(a b:Nat)(hle:b≤a)(la:(lim a).length≤1000000):Con Tryz.prog 258 cl [.ag [.sl (lim (a)).length (qb (lim (a)))],.ag [.sl (lim (b)).length (qb (lim (b)))]] [] (aDr (a-b)):=by
 have lB:(lim b).length≤(lim a).length:=yn hle
 have hA:=q4 a
 have hB:=q4 b
 refine Con.of_aw Tryz.func258 rfl Tryz.ntmps258 (by simp) (by simp) (by simp) (W.sound ?_)
 show @W Tryz.prog 45 ⟨_⟩ ⟨fun x σ=>@qU _ _ _ ⟨_⟩ _ ⟨_⟩ x σ⟩ _ _
 simp(disch:=omega)only[go_sem]
 refine qj (fun x:Nat×List Int×Int=>[(2,.pt 2 0),(3,.pt 3 0),(4,.pt 4 0),(5,.rf 1 0 x.2.1.length),(6,.v (.int .i64 x.2.2)),(7,.v (.int .i64 x.1))])
  (fun x=>[(1,.own 1 (qb x.2.1)),(2,.own 0 [.sl (lim (a)).length (qb (lim (a)))]),(3,.own 0 [.sl (lim (b)).length (qb (lim (b)))]),(4,.own 0 [.v (.slice none 0 0)])])
  (fun x=>x.1≤(lim a).length∧x.2.1.length=x.1∧gd x.2.1∧(0≤x.2.2∧x.2.2≤1)∧vl x.2.1-65536^x.1*x.2.2=vl ((lim a).take x.1)-vl ((lim b).take x.1))
  (fun x=>(lim a).length-x.1) (0,[],0) ⟨by simp,rfl,ZC,by simp,by simp[vl]⟩
  ((Le.ghost 5 1 1 (by simp(disch:=omega)only[go_sem]) (by simp(disch:=omega)only[go_sem])).trans (Le.lst [(2,40000000),(3,50000000),(4,60000000)] _ _ rfl (by simp(disch:=omega)only[go_sem]) (by simp(disch:=omega)only[go_sem]))) ?_
 rintro⟨i,out,bo⟩ ⟨hi,hol,hog,hbo,hov⟩
 dsimp only at hi hol hog hbo hov ⊢
 simp(disch:=omega)only[go_sem]
 refine qg (fun h1=>?_) (fun h1=>?_)
 ·have hx:=qH hA i
  have hy:=qH hB i
  have hstep:∀z b':Int,(lim a).getD i 0-bo-(lim b).getD i 0=z-65536*b'→vl (out++[z])-65536^(i+1)*b'=vl ((lim a).take (i+1))-vl ((lim b).take (i+1)):=by
   intro z b' hz
   rw[jk,qO,qO,hol,Int.pow_succ]
   generalize (65536:Int)^i=Pi at*
   grind
  have hyz:¬i<(lim b).length→(lim b).getD i 0=0:=fun h=>by rw[List.getD_eq_getElem?_getD,List.getElem?_eq_none (by omega)];rfl
  simp(disch:=omega)only[go_sem,h1]
  refine⟨by omega,by omega,qg (fun h2=>?_) (fun h2=>?_)⟩
  ·simp(disch:=omega)only[go_sem,h2]
   refine⟨by omega,by omega,qg (fun h3=>?_) (fun h3=>?_)⟩
   ·simp(disch:=omega)only[go_sem,h3]
    refine⟨by omega,qc (i+1,out++[(lim a).getD i 0-bo-(lim b).getD i 0+65536],1) [(1,440000000)] ⟨by show i+1≤_;omega,by simp[hol],qD.2 ⟨hog,zH.2 (by omega)⟩,by simp,hstep ((lim a).getD i 0-bo-(lim b).getD i 0+65536) 1 (by omega)⟩ (by show(lim a).length-(i+1)<(lim a).length-i;omega) rfl (by simp(disch:=omega)only[go_sem,List.length_append];try omega) (by simp(disch:=omega)only[go_sem])⟩
   ·simp(disch:=omega)only[go_sem,h3]
    refine⟨by omega,qc (i+1,out++[(lim a).getD i 0-bo-(lim b).getD i 0],0) [(1,440000000)] ⟨by show i+1≤_;omega,by simp[hol],qD.2 ⟨hog,zH.2 (by omega)⟩,by simp,hstep ((lim a).getD i 0-bo-(lim b).getD i 0) 0 (by omega)⟩ (by show(lim a).length-(i+1)<(lim a).length-i;omega) rfl (by simp(disch:=omega)only[go_sem,List.length_append];try omega) (by simp(disch:=omega)only[go_sem])⟩
  ·simp(disch:=omega)only[go_sem,h2]
   refine qg (fun h3=>?_) (fun h3=>?_)
   ·simp(disch:=omega)only[go_sem,h3]
    have hy0:=hyz (by omega)
    refine⟨by omega,qc (i+1,out++[(lim a).getD i 0-bo+65536],1) [(1,440000000)] ⟨by show i+1≤_;omega,by simp[hol],qD.2 ⟨hog,zH.2 (by omega)⟩,by simp,hstep ((lim a).getD i 0-bo+65536) 1 (by omega)⟩ (by show(lim a).length-(i+1)<(lim a).length-i;omega) rfl (by simp(disch:=omega)only[go_sem,List.length_append];try omega) (by simp(disch:=omega)only[go_sem])⟩
   ·simp(disch:=omega)only[go_sem,h3]
    have hy0:=hyz (by omega)
    refine⟨by omega,qc (i+1,out++[(lim a).getD i 0-bo],0) [(1,440000000)] ⟨by show i+1≤_;omega,by simp[hol],qD.2 ⟨hog,zH.2 (by omega)⟩,by simp,hstep ((lim a).getD i 0-bo) 0 (by omega)⟩ (by show(lim a).length-(i+1)<(lim a).length-i;omega) rfl (by simp(disch:=omega)only[go_sem,List.length_append];try omega) (by simp(disch:=omega)only[go_sem])⟩
 ·simp(disch:=omega)only[go_sem,h1]
  have hiA:i=(lim a).length:=by omega
  subst hiA
  rw[List.take_length,List.take_of_length_le lB]at hov
  have hva:=qZ a
  have hvb:=qZ b
  have hb0:bo=0:=by
   have h2:=Qe hog
   rw[hol]at h2
   rcases(by omega:bo=0∨bo=1)with h|h
   ·exact h
   ·subst h;omega
  subst hb0
  have hov2:vl out=((a-b:Nat):Int):=by omega
  refine qz (jj true out (a-b) (by omega) hog hov2) (by simp(disch:=omega)only[go_sem]) ?_
  rintro r hs (⟨h0,rfl,rfl⟩|⟨zs,rfl,rfl⟩)
  ·refine⟨⟨by simp,by simp(disch:=omega)only[go_sem]⟩,?_⟩
   simp(disch:=omega)only[go_sem]
   refine qi [] [] [] [.ag [.v (.slice none 0 0)]] rfl (by simp(disch:=omega)only[go_sem]) (by simp(disch:=omega)only[go_sem]) (by simp) (by intro _;simp[zd,AV.pu,AV.pu.puL,Ob.pu,qS]) (.inl ⟨h0,rfl,rfl⟩)
  ·refine⟨⟨by simp,by simp(disch:=omega)only[go_sem]⟩,?_⟩
   simp(disch:=omega)only[go_sem]
   refine qi [(0,460000000)] [.own 1 (qb (lim (a-b)++zs))] [] [.ag [.rf 0 0 (lim (a-b)).length]] rfl (by simp(disch:=omega)only[go_sem]) (by simp(disch:=omega)only[go_sem]) (by simp) (by intro _;simp[zd,AV.pu,AV.pu.puL,Ob.pu,qS]) (.inr ⟨zs,rfl,rfl⟩)
end Go.Ab
namespace Go.Ab
open Go Go.Proofs
theorem Jz(a b:Nat)(hle:b≤a)(la:(lim a).length≤1000000):Con Tryz.prog 258 false [.ag [.sl (lim (a)).length (qb (lim (a)))],.ag [.sl (lim (b)).length (qb (lim (b)))]] [] (isA (.ag [.sl (lim (a-b)).length (qb (lim (a-b)))])):=(apq false a b hle la).natF
theorem app(s1:Bool)(m1:Nat)(s2:Bool)(m2:Nat)(h1:bl m1≤6000000)(h2:bl m2≤6000000):
  Con Tryz.prog 201 false [.ag [.v (.bool (s1)),.sl (lim (m1)).length (qb (lim (m1)))],.ag [.v (.bool (s2)),.sl (lim (m2)).length (qb (lim (m2)))]] [] (isA (.ag [.v (.bool (suS s1 m1 s2 m2)),.sl (lim (suM s1 m1 s2 m2)).length (qb (lim (suM s1 m1 s2 m2)))])):=by
 refine Con.frzA ?_
 have l1:=qB h1
 have l2:=qB h2
 have hge:(0≤zg (m1:Int) (m2:Int))↔m2≤m1:=by rw[apM.2.2];omega
 have hb:=aen (s1:=s1) (s2:=s2) h1 h2
 have l3:=qB hb
 rw[←anK]
 refine Con.of_w (rs:=[.cell 4 27]) Tryz.func201 rfl Tryz.ntmps201 rfl ?_
 simp(disch:=omega)only[go_sem]
 refine yv (fun c1=>?_) (fun c1=>?_)
 ·have c1':s1=s2:=by simpa using c1
  simp(disch:=omega)only[go_sem,c1]
  subst c1'
  rw[adW,adV]at*
  refine qp rfl [⟨0,[],[]⟩,⟨1,[],[]⟩,⟨2,[1],[]⟩,⟨3,[1],[]⟩,⟨4,[1,3],[]⟩,⟨5,[1,3],[]⟩,⟨6,[1],[]⟩,⟨7,[],[]⟩,⟨8,[],[]⟩] (by kernel_rfl) ?_
  simp(disch:=omega)only[go_sem]
  refine qa (JC m1 m2 (by omega) (by omega)) ?_
  simp(disch:=omega)only[go_sem]
  refine qa (zf s1 (m1+m2) (by omega)) ?_
  simp(disch:=omega)only[go_sem]
  exact qk
 ·have c1':s1≠s2:=by simpa using c1
  simp(disch:=omega)only[go_sem,c1]
  refine qe (ZP m1 m2 (by omega) (by omega)) ?_
  simp(disch:=omega)only[go_sem]
  refine qg (fun c2=>?_) (fun c2=>?_)
  ·have c2':m2≤m1:=hge.1 (by omega)
   rw[aDk c1' c2',aDd c1' c2']at*
   simp(disch:=omega)only[go_sem,c2]
   refine qp rfl [⟨0,[],[]⟩,⟨1,[],[]⟩,⟨2,[1],[]⟩,⟨3,[1],[]⟩,⟨4,[1,3],[]⟩,⟨5,[1,3],[]⟩,⟨6,[1],[]⟩,⟨7,[],[]⟩,⟨8,[],[]⟩] (by kernel_rfl) ?_
   simp(disch:=omega)only[go_sem]
   refine qa (Jz m1 m2 c2' (by omega)) ?_
   simp(disch:=omega)only[go_sem]
   refine qa (zf s1 (m1-m2) (by omega)) ?_
   simp(disch:=omega)only[go_sem]
   exact qk
  ·have c2':¬m2≤m1:=fun h=>c2 (by have:=hge.2 h;omega)
   rw[aDj c1' c2',aDc c1' c2']at*
   simp(disch:=omega)only[go_sem,c2]
   refine qp rfl [⟨0,[],[]⟩,⟨1,[],[]⟩,⟨2,[1],[]⟩,⟨3,[1],[]⟩,⟨4,[1,3],[]⟩,⟨5,[1,3],[]⟩,⟨6,[1],[]⟩,⟨7,[],[]⟩,⟨8,[],[]⟩] (by kernel_rfl) ?_
   simp(disch:=omega)only[go_sem]
   refine qa (Jz m2 m1 (by omega) (by omega)) ?_
   simp(disch:=omega)only[go_sem]
   refine qa (zf s2 (m2-m1) (by omega)) ?_
   simp(disch:=omega)only[go_sem]
   exact qk
theorem apn(s:Bool)(m:Nat)(hl:(lim m).length≤2^39):Con Tryz.prog 257 false [.ag [.v (.bool (s)),.sl (lim (m)).length (qb (lim (m)))]] [] (isA (.ag [.v (.bool ((!s)&&decide (m≠0))),.sl (lim (m)).length (qb (lim (m)))])):=by
 refine Con.frzA ?_
 refine Con.of_w (rs:=[.cell 2 27]) Tryz.func257 rfl Tryz.ntmps257 rfl ?_
 simp(disch:=omega)only[go_sem]
 refine qa (zf (!s) m hl) ?_
 simp(disch:=omega)only[go_sem]
 exact qk
theorem apl(s:Bool)(m:Nat)(e:Int)(hl:(lim m).length≤2^39):Con Tryz.prog 199 false [.ag [.v (.bool (s)),.sl (lim (m)).length (qb (lim (m))),.v (.int .i64 (e))]] [] (isA (.ag [.v (.bool ((!s)&&decide (m≠0))),.sl (lim (m)).length (qb (lim (m))),.v (.int .i64 (e))])):=by
 refine Con.frzA ?_
 refine Con.of_w (rs:=[.cell 2 29]) Tryz.func199 rfl Tryz.ntmps199 rfl ?_
 simp(disch:=omega)only[go_sem]
 refine qp rfl [⟨0,[],[]⟩,⟨1,[],[]⟩,⟨3,[1],[]⟩,⟨4,[1],[]⟩,⟨2,[4],[]⟩,⟨5,[],[]⟩,⟨6,[],[]⟩] (by kernel_rfl) ?_
 simp(disch:=omega)only[go_sem]
 refine qa (apn s m hl) ?_
 simp(disch:=omega)only[go_sem]
 exact qk
def alF(m1:Nat)(e1:Int)(m2:Nat)(e2:Int):Int:=if m1=0 then e2 else if m2=0 then e1 else if e1≤e2 then e1 else e2
theorem aSw(m1:Nat)(e1:Int)(m2:Nat)(e2:Int)(h:¬(m1=0∧m2=0)):alF m1 e1 m2 e2=alE m1 e1 m2 e2:=by
 unfold alF alE
 repeat' split
 all_goals omega
theorem ZM(s1:Bool)(m1:Nat)(e1:Int)(s2:Bool)(m2:Nat)(e2:Int)(h1:bl m1≤4000000)(h2:bl m2≤4000000)(he1: -1000000≤e1∧e1≤1000000)(he2: -1000000≤e2∧e2≤1000000)(z1:m1=0→s1=false)(z2:m2=0→s2=false):
  Con Tryz.prog 157 false [.ag [.v (.bool (s1)),.sl (lim (m1)).length (qb (lim (m1))),.v (.int .i64 (e1))],.ag [.v (.bool (s2)),.sl (lim (m2)).length (qb (lim (m2))),.v (.int .i64 (e2))]] [] (isA (.tu [.ag [.v (.bool (s1)),.sl (lim (alA m1 e1 (alE m1 e1 m2 e2))).length (qb (lim (alA m1 e1 (alE m1 e1 m2 e2))))],.ag [.v (.bool (s2)),.sl (lim (alA m2 e2 (alE m1 e1 m2 e2))).length (qb (lim (alA m2 e2 (alE m1 e1 m2 e2))))],.v (.int .i64 (alF m1 e1 m2 e2))])):=by
 refine Con.frzA ?_
 have l1:=qB h1
 have l2:=qB h2
 refine Con.of_aw Tryz.func157 rfl Tryz.ntmps157 (by simp) (by simp) (by simp) (W.sound ?_)
 show @W Tryz.prog 70 ⟨_⟩ ⟨fun x σ=>@qU _ _ _ ⟨_⟩ _ ⟨_⟩ x σ⟩ _ _
 simp(disch:=omega)only[go_sem]
 refine qg (fun c1=>?_) (fun c1=>?_)
 ·have y1:m1=0:=qF.1 (List.length_eq_zero_iff.1 (by omega))
  have eF:alF m1 e1 m2 e2=e2:=by unfold alF;rw[if_pos y1]
  have a1:alA m1 e1 (alE m1 e1 m2 e2)=m1:=by rw[y1];unfold alA;rw[Nat.zero_mul]
  have a2:alA m2 e2 (alE m1 e1 m2 e2)=m2:=by
   by_cases y2:m2=0
   ·rw[y2];unfold alA;rw[Nat.zero_mul]
   ·unfold alA alE;rw[if_neg y2,if_pos y1,Int.sub_self];simp
  simp(disch:=omega)only[go_sem,c1]
  refine qp rfl [⟨0,[],[]⟩,⟨1,[],[]⟩,⟨2,[1],[]⟩,⟨3,[1],[]⟩,⟨4,[1,3],[]⟩,⟨5,[1,3],[]⟩,⟨6,[3,5],[]⟩,⟨7,[5],[]⟩,⟨8,[],[]⟩] (by kernel_rfl) ?_
  simp(disch:=omega)only[go_sem]
  refine qK (by simp(disch:=omega)only[go_sem]) ?_
  show qE _ 6 _=_
  rw[eF,a1,a2]
  simp(disch:=omega)only[go_sem]
 ·have y1:m1≠0:=fun e=>c1 (by rw[e,qm];rfl)
  simp(disch:=omega)only[go_sem,c1]
  refine qg (fun c2=>?_) (fun c2=>?_)
  ·have y2:m2=0:=qF.1 (List.length_eq_zero_iff.1 (by omega))
   have eF:alF m1 e1 m2 e2=e1:=by unfold alF;rw[if_neg y1,if_pos y2]
   have a1:alA m1 e1 (alE m1 e1 m2 e2)=m1:=by unfold alA alE;rw[if_pos y2,Int.sub_self];simp
   have a2:alA m2 e2 (alE m1 e1 m2 e2)=m2:=by rw[y2];unfold alA;rw[Nat.zero_mul]
   simp(disch:=omega)only[go_sem,c2]
   refine qp rfl [⟨0,[],[]⟩,⟨1,[],[]⟩,⟨2,[1],[]⟩,⟨3,[1],[]⟩,⟨4,[1,3],[]⟩,⟨5,[1,3],[]⟩,⟨6,[3,5],[]⟩,⟨7,[5],[]⟩,⟨8,[],[]⟩] (by kernel_rfl) ?_
   simp(disch:=omega)only[go_sem]
   refine qK (by simp(disch:=omega)only[go_sem]) ?_
   show qE _ 6 _=_
   rw[eF,a1,a2]
   simp(disch:=omega)only[go_sem]
  ·have y2:m2≠0:=fun e=>c2 (by rw[e,qm];rfl)
   simp(disch:=omega)only[go_sem,c2]
   refine qg (fun c3=>?_) (fun c3=>?_)
   ·have eF:alF m1 e1 m2 e2=e1:=by unfold alF;rw[if_neg y1,if_neg y2,if_pos c3]
    have eE:alE m1 e1 m2 e2=e1:=by unfold alE;rw[if_neg y2,if_neg y1,if_neg (by omega)]
    have a1:alA m1 e1 (alE m1 e1 m2 e2)=m1:=by rw[eE];unfold alA;rw[Int.sub_self];simp
    have ek:e2-e1=(((e2-e1).toNat:Nat):Int):=by omega
    have hb:bl (m2*2^(e2-e1).toNat)≤6000000:=by have:=YA m2 (e2-e1).toNat;omega
    have l3:=qB hb
    have hn:m2*2^(e2-e1).toNat≠0:=Nat.mul_ne_zero y2 (Nat.pos_iff_ne_zero.1 (Nat.pow_pos (by omega)))
    have hd:decide (m2*2^(e2-e1).toNat≠0)=true:=decide_eq_true hn
    simp(disch:=omega)only[go_sem,c3]
    refine qp rfl [⟨0,[],[]⟩,⟨1,[],[]⟩,⟨2,[1],[]⟩,⟨3,[1],[]⟩,⟨4,[1],[]⟩,⟨5,[1,4],[]⟩,⟨6,[1,4],[]⟩,⟨7,[1,4],[]⟩,⟨8,[1,4,7],[]⟩,⟨9,[1,4,7],[]⟩,⟨10,[1,4,7,9],[]⟩,⟨11,[1,4,7,9],[]⟩,⟨12,[1,4,7],[]⟩,⟨15,[1,4,7,9,11],[]⟩,⟨16,[1,4,7,9,11],[]⟩,⟨13,[1,4,16],[]⟩,⟨14,[1,16],[]⟩,⟨17,[16],[]⟩,⟨18,[16],[]⟩,⟨19,[],[]⟩] (by kernel_rfl) ?_
    simp(disch:=omega)only[go_sem]
    refine q8 (JA m2 (e2-e1).toNat (by omega) (by omega)) (by simp(disch:=omega)only[go_sem,←ek]) ?_
    rintro r hs ⟨rfl,rfl,_⟩
    refine⟨by simp[qN],?_⟩
    simp(disch:=omega)only[go_sem]
    refine qa (zf s2 (m2*2^(e2-e1).toNat) (by omega)) ?_
    simp(disch:=omega)only[go_sem]
    refine qK (by simp(disch:=omega)only[go_sem]) ?_
    show qE _ 6 _=_
    rw[eF,a1,eE,hd];unfold alA
    simp(disch:=omega)only[go_sem,Bool.and_true]
   ·have eF:alF m1 e1 m2 e2=e2:=by unfold alF;rw[if_neg y1,if_neg y2,if_neg c3]
    have eE:alE m1 e1 m2 e2=e2:=by unfold alE;rw[if_neg y2,if_neg y1,if_pos (by omega)]
    have a2:alA m2 e2 (alE m1 e1 m2 e2)=m2:=by rw[eE];unfold alA;rw[Int.sub_self];simp
    have ek:e1-e2=(((e1-e2).toNat:Nat):Int):=by omega
    have hb:bl (m1*2^(e1-e2).toNat)≤6000000:=by have:=YA m1 (e1-e2).toNat;omega
    have l3:=qB hb
    have hn:m1*2^(e1-e2).toNat≠0:=Nat.mul_ne_zero y1 (Nat.pos_iff_ne_zero.1 (Nat.pow_pos (by omega)))
    have hd:decide (m1*2^(e1-e2).toNat≠0)=true:=decide_eq_true hn
    simp(disch:=omega)only[go_sem,c3]
    refine qp rfl [⟨0,[],[]⟩,⟨1,[],[]⟩,⟨2,[],[]⟩,⟨3,[2],[]⟩,⟨4,[2],[]⟩,⟨5,[2],[]⟩,⟨6,[2,5],[]⟩,⟨7,[2,5],[]⟩,⟨8,[2,5,7],[]⟩,⟨9,[2,5,7],[]⟩,⟨10,[2,5],[]⟩,⟨13,[2,5,7,9],[]⟩,⟨14,[2,5,7,9],[]⟩,⟨15,[2,5,7,9,14],[]⟩,⟨16,[2,5,7,9,14],[]⟩,⟨11,[2,14,16],[]⟩,⟨12,[14,16],[]⟩,⟨17,[14,16],[]⟩,⟨18,[16],[]⟩,⟨19,[],[]⟩] (by kernel_rfl) ?_
    simp(disch:=omega)only[go_sem]
    refine q8 (JA m1 (e1-e2).toNat (by omega) (by omega)) (by simp(disch:=omega)only[go_sem,←ek]) ?_
    rintro r hs ⟨rfl,rfl,_⟩
    refine⟨by simp[qN],?_⟩
    simp(disch:=omega)only[go_sem]
    refine qa (zf s1 (m1*2^(e1-e2).toNat) (by omega)) ?_
    simp(disch:=omega)only[go_sem]
    refine qK (by simp(disch:=omega)only[go_sem]) ?_
    show qE _ 6 _=_
    rw[eF,a2,eE,hd];unfold alA
    simp(disch:=omega)only[go_sem,Bool.and_true]
theorem apm(s1:Bool)(m1:Nat)(e1:Int)(s2:Bool)(m2:Nat)(e2:Int)(h1:bl m1≤4000000)(h2:bl m2≤4000000)(he1: -1000000≤e1∧e1≤1000000)(he2: -1000000≤e2∧e2≤1000000)(z1:m1=0→s1=false)(z2:m2=0→s2=false):
  Con Tryz.prog 126 false [.ag [.v (.bool (s1)),.sl (lim (m1)).length (qb (lim (m1))),.v (.int .i64 (e1))],.ag [.v (.bool (s2)),.sl (lim (m2)).length (qb (lim (m2))),.v (.int .i64 (e2))]] [] (isA (.ag [.v (.bool (oS (adS s1 m1 e1 s2 m2 e2) (adM s1 m1 e1 s2 m2 e2))),.sl (lim (oM (adM s1 m1 e1 s2 m2 e2))).length (qb (lim (oM (adM s1 m1 e1 s2 m2 e2)))),.v (.int .i64 (oE (adM s1 m1 e1 s2 m2 e2) (alE m1 e1 m2 e2)))])):=by
 refine Con.frzA ?_
 have hE:=Z0 (m1:=m1) (m2:=m2) he1.1 he2.1
 have b1:=QJ (e:=e1) (E:=alE m1 e1 m2 e2) (C:=2000000) h1 (by omega)
 have b2:=QJ (e:=e2) (E:=alE m1 e1 m2 e2) (C:=2000000) h2 (by omega)
 have hF: -1000000≤alF m1 e1 m2 e2∧alF m1 e1 m2 e2≤1000000:=by
  unfold alF
  repeat' split
  all_goals omega
 have hX:oE (adM s1 m1 e1 s2 m2 e2) (alE m1 e1 m2 e2)=oE (adM s1 m1 e1 s2 m2 e2) (alF m1 e1 m2 e2):=by
  by_cases h:m1=0∧m2=0
  ·have:adM s1 m1 e1 s2 m2 e2=0:=by rw[h.1,h.2];unfold adM alA;rw[Nat.zero_mul,Nat.zero_mul];unfold suM;rw[jV,jV];rfl
   rw[this];rfl
  ·rw[aSw _ _ _ _ h]
 rw[hX]
 have l1:=qB h1
 have l2:=qB h2
 refine Con.of_w (rs:=[.cell 4 29]) Tryz.func126 rfl Tryz.ntmps126 rfl ?_
 simp(disch:=omega)only[go_sem]
 refine qa (ZM s1 m1 e1 s2 m2 e2 h1 h2 he1 he2 z1 z2) ?_
 simp(disch:=omega)only[go_sem]
 unfold adS adM
 generalize alA m1 e1 (alE m1 e1 m2 e2)=A at*
 generalize alA m2 e2 (alE m1 e1 m2 e2)=B at*
 generalize alF m1 e1 m2 e2=E at*
 refine qa (app s1 A s2 B (by omega) (by omega)) ?_
 simp(disch:=omega)only[go_sem]
 have hb:=aen (s1:=s1) (s2:=s2) b1 b2
 refine qa (Qx (suS s1 A s2 B) (suM s1 A s2 B) E (by omega) (by omega)) ?_
 simp(disch:=omega)only[go_sem]
 exact qk
end Go.Ab
namespace Go.Ab
open Go Go.Proofs
def srM(s:Bool)(m:Nat)(e low mode:Int):Nat:=oM (roM s m e low mode)
def srE(s:Bool)(m:Nat)(e low mode:Int):Int:=if low≤e∨m=0 then e else oE (roM s m e low mode) low
end Go.Ab
namespace Go.Ab
open Go Go.Proofs
end Go.Ab
namespace Go.Ab
open Go Go.Proofs
theorem aiL(xs:List Int)(hl:xs.length≤2^40):Con Tryz.prog 212 true [.ag [.sl xs.length (qb xs)]] [] (isA (.v (.bool (J0 xs)))):=by
 refine Con.of_aw Tryz.func212 rfl Tryz.ntmps212 (by simp) (by simp) (by simp) (W.sound ?_)
 show @W Tryz.prog 44 ⟨_⟩ ⟨fun x σ=>@qU _ _ _ ⟨_⟩ _ ⟨_⟩ x σ⟩ _ _
 simp(disch:=omega)only[go_sem]
 refine qg (fun h1=>?_) (fun h1=>?_)
 ·simp(disch:=omega)only[go_sem,h1]
  refine qx (by simp(disch:=omega)only[go_sem]) (by simp(disch:=omega)only[go_sem]) ⟨?_,rfl,rfl⟩
  have:¬(xs.length≤100):=by omega
  simp[zd,J0,this]
 ·simp(disch:=omega)only[go_sem,h1]
  refine qj (fun i:Nat=>[(1,.pt 30000000 0),(2,.v (.bool false)),(3,.v (.int .i64 i))]) (fun _=>[(30000000,.own 0 [.sl xs.length (qb xs)])]) (fun i=>i≤xs.length∧∀x∈xs.take i,0≤x∧x≤65535) (fun i=>xs.length-i) 0 ⟨by omega,by simp⟩
   (Le.lst [] _ _ rfl (by simp(disch:=omega)only[go_sem]) (by simp(disch:=omega)only[go_sem])) ?_
  rintro i ⟨hi,hx⟩
  simp(disch:=omega)only[go_sem]
  refine qg (fun h2=>?_) (fun h2=>?_)
  ·simp(disch:=omega)only[go_sem,h2]
   have hmem:xs.getD i 0∈xs:=by
    rw[List.getD_eq_getElem?_getD,List.getElem?_eq_getElem (by omega)];exact List.getElem_mem _
   have bad:¬(0≤xs.getD i 0∧xs.getD i 0≤65535)→J0 xs=false:=by
    intro hc
    unfold J0
    have:xs.all (fun x=>decide (0≤x)&&decide (x≤65535))=false:=by
     rw[List.all_eq_false]
     refine⟨_,hmem,?_⟩
     simp only[Bool.and_eq_true,decide_eq_true_eq];exact hc
    rw[this];simp
   refine⟨by omega,by omega,?_⟩
   refine zt (fun h3=>?_) (fun h3=>?_)
   ·simp(disch:=omega)only[go_sem,h3]
    refine⟨by omega,by omega,?_⟩
    refine qg (fun h4=>?_) (fun h4=>?_)
    ·simp(disch:=omega)only[go_sem,h4]
     rw[bad (by omega)]
     exact qy
    ·simp(disch:=omega)only[go_sem,h4]
     refine qc (i+1) [] ⟨by omega,?_⟩ (by show xs.length-(i+1)<xs.length-i;omega) rfl (by simp(disch:=omega)only[go_sem];try omega) (by simp(disch:=omega)only[go_sem])
     intro x hxx
     rw[List.take_add_one]at hxx
     rcases List.mem_append.1 hxx with h|h
     ·exact hx x h
     ·rw[List.getElem?_eq_getElem (by omega)]at h
      simp at h
      rw[List.getD_eq_getElem?_getD,List.getElem?_eq_getElem (by omega)]at h3 h4
      simp at h3 h4
      subst h
      omega
   ·simp(disch:=omega)only[go_sem,h3]
    rw[bad (by omega)]
    exact qy
  ·have:i=xs.length:=by omega
   subst this
   rw[List.take_length]at hx
   have hall:xs.all (fun x=>decide (0≤x)&&decide (x≤65535))=true:=by
    rw[List.all_eq_true]
    intro x h;have:=hx x h;simp only[Bool.and_eq_true,decide_eq_true_eq];exact this
   have e1:decide (xs.length≤100)=true:=by simp;omega
   simp(disch:=omega)only[go_sem,h2]
   refine zt (fun h3=>?_) (fun h3=>?_)
   ·have en:((xs.length:Int)-1).toNat=xs.length-1:=by omega
    have hmem:xs.getD (xs.length-1) 0∈xs:=by
     rw[List.getD_eq_getElem?_getD,List.getElem?_eq_getElem (by omega)];exact List.getElem_mem _
    have hp:=hx _ hmem
    simp(disch:=omega)only[go_sem,h3,en]
    refine⟨by omega,by omega,?_⟩
    refine qx (by simp(disch:=omega)only[go_sem]) (by simp(disch:=omega)only[go_sem]) ⟨?_,rfl,rfl⟩
    have e2:decide (xs.length=0)=false:=by simp;intro h;subst h;simp at h3
    show AV.v (.bool _)=AV.v (.bool _)
    unfold J0
    rw[e1,hall,e2,Bool.false_or,Bool.true_and,Bool.true_and]
    congr 2
    rw[decide_eq_decide]
    omega
   ·simp(disch:=omega)only[go_sem,h3]
    refine qx (by simp(disch:=omega)only[go_sem]) (by simp(disch:=omega)only[go_sem]) ⟨?_,rfl,rfl⟩
    have e2:decide (xs.length=0)=true:=by simp;exact List.length_eq_zero_iff.1 (by omega)
    show AV.v (.bool _)=AV.v (.bool _)
    unfold J0
    rw[e1,hall,e2]
    simp
theorem QG(s:Bool)(xs:List Int)(hl:xs.length≤2^40):Con Tryz.prog 137 true [.ag [.v (.bool s),.sl xs.length (qb xs)]] [] (isA (.v (.bool (zD s xs)))):=by
 refine Con.of_aw Tryz.func137 rfl Tryz.ntmps137 (by simp) (by simp) (by simp) (W.sound ?_)
 show @W Tryz.prog 18 ⟨_⟩ ⟨fun x σ=>@qU _ _ _ ⟨_⟩ _ ⟨_⟩ x σ⟩ _ _
 simp(disch:=omega)only[go_sem]
 refine qe (aiL xs hl) ?_
 simp(disch:=omega)only[go_sem]
 refine yv (fun h1=>?_) (fun h1=>?_)
 ·simp(disch:=omega)only[go_sem,h1]
  cases s
  ·simp(disch:=omega)only[go_sem]
   refine qx (by simp(disch:=omega)only[go_sem]) (by simp(disch:=omega)only[go_sem]) ⟨?_,rfl,rfl⟩
   simp[zd,zD,h1]
  ·simp(disch:=omega)only[go_sem]
   refine qx (by simp(disch:=omega)only[go_sem]) (by simp(disch:=omega)only[go_sem]) ⟨?_,rfl,rfl⟩
   show AV.v (.bool _)=AV.v (.bool _)
   unfold zD
   rw[h1,Bool.true_and,Bool.true_and,←decide_not]
   congr 2
   rw[decide_eq_decide]
   omega
 ·simp(disch:=omega)only[go_sem,h1]
  refine qx (by simp(disch:=omega)only[go_sem]) (by simp(disch:=omega)only[go_sem]) ⟨?_,rfl,rfl⟩
  simp[zd,zD,h1]
theorem z7(s:Bool)(xs:List Int)(e:Int)(hl:xs.length≤2^40):Con Tryz.prog 59 true [.ag [.v (.bool s),.sl xs.length (qb xs),.v (.int .i64 e)]] [] (isA (.v (.bool (dyB s xs e)))):=by
 refine Con.of_aw Tryz.func59 rfl Tryz.ntmps59 (by simp) (by simp) (by simp) (W.sound ?_)
 show @W Tryz.prog 31 ⟨_⟩ ⟨fun x σ=>@qU _ _ _ ⟨_⟩ _ ⟨_⟩ x σ⟩ _ _
 simp(disch:=omega)only[go_sem]
 refine qe (QG s xs hl) ?_
 simp(disch:=omega)only[go_sem]
 refine yv (fun hw=>?_) (fun hw=>?_)
 ·have h1:=hw
  simp only[zD,Bool.and_eq_true]at h1
  obtain⟨hx,hll⟩:=QZ h1.1
  have hxs:xs=lim (vl xs).toNat:=hx
  generalize hm:(vl xs).toNat=m at*
  subst hx
  simp(disch:=omega)only[go_sem,hw]
  refine zt (fun h2=>?_) (fun h2=>?_)
  ·simp(disch:=omega)only[go_sem,h2]
   refine qg (fun h3=>?_) (fun h3=>?_)
   ·simp(disch:=omega)only[go_sem,h3]
    refine qx (by simp(disch:=omega)only[go_sem]) (by simp(disch:=omega)only[go_sem]) ⟨?_,rfl,rfl⟩
    have a2:¬e≤3000:=by omega
    simp[zd,dyB,a2]
   ·simp(disch:=omega)only[go_sem,h3]
    refine qg (fun h4=>?_) (fun h4=>?_)
    ·simp(disch:=omega)only[go_sem,h4]
     have h0:m=0:=qF.1 (List.length_eq_zero_iff.1 (by omega))
     refine qx (by simp(disch:=omega)only[go_sem]) (by simp(disch:=omega)only[go_sem]) ⟨?_,rfl,rfl⟩
     have a1: -3000≤e:=by omega
     have a2:e≤3000:=by omega
     have a3:(lim m).length=0:=by omega
     show AV.v (.bool _)=AV.v (.bool _)
     unfold dyB
     rw[hw,hm,decide_eq_true a1,decide_eq_true a2,decide_eq_true a3,h0]
     simp
    ·simp(disch:=omega)only[go_sem,h4]
     refine qe (KO m 0 (by omega) (by omega) (by omega)) ?_
     simp(disch:=omega)only[go_sem]
     refine qx (by simp(disch:=omega)only[go_sem]) (by simp(disch:=omega)only[go_sem]) ⟨?_,rfl,rfl⟩
     have a1: -3000≤e:=by omega
     have a2:e≤3000:=by omega
     have a3:¬(lim m).length=0:=by omega
     show AV.v (.bool _)=AV.v (.bool _)
     unfold dyB
     rw[hw,hm,decide_eq_true a1,decide_eq_true a2,decide_eq_false a3]
     simp
     omega
  ·simp(disch:=omega)only[go_sem,h2]
   refine qx (by simp(disch:=omega)only[go_sem]) (by simp(disch:=omega)only[go_sem]) ⟨?_,rfl,rfl⟩
   have a1:¬ -3000≤e:=by omega
   simp[zd,dyB,a1]
 ·simp(disch:=omega)only[go_sem,hw]
  refine qx (by simp(disch:=omega)only[go_sem]) (by simp(disch:=omega)only[go_sem]) ⟨?_,rfl,rfl⟩
  simp[zd,dyB,hw]
end Go.Ab
namespace Go.Ab
open Go Go.Proofs
theorem y7(s:Bool)(m:Nat)(e:Int):dyB (oS s m) (lim (oM m)) (oE m e)=j7 m e:=by
 unfold dyB zD j7 jR
 rw[qZ,Int.toNat_natCast]
 have hod:=aND m
 have hz:=bct s m
 by_cases h:(lim (oM m)).length≤100
 ·rw[aod _ h,decide_eq_true h,Bool.true_and,Bool.true_and]
  by_cases h0:oM m=0
  ·have hm:m=0:=yi.1 h0
   rw[hz h0,h0,hm]
   simp[oE,qm]
  ·have h1:oM m % 2=1:=hod.resolve_right h0
   have h2:decide ((lim (oM m)).length=0)=false:=by
    have:=yY h0
    exact decide_eq_false (by omega)
   rw[h2,decide_eq_true h1]
   simp
 ·rw[decide_eq_false h]
  have:J0 (lim (oM m))=false:=by unfold J0;rw[decide_eq_false h,Bool.false_and]
  rw[this];simp
theorem aiQ(s:Bool)(m:Nat)(e:Int)(hl:(lim (oM m)).length≤2^40):Con Tryz.prog 139 false [.ag [.v (.bool (oS s m)),.sl (lim (oM m)).length (qb (lim (oM m))),.v (.int .i64 (oE m e))]] [] (isA (if j7 m e=true then .tu [.ag [.v (.bool (oS s m)),.sl (lim (oM m)).length (qb (lim (oM m))),.v (.int .i64 (oE m e))],.v (.bool true)]else .tu [.ag [.v (.bool (false)),.sl (lim (0)).length (qb (lim (0))),.v (.int .i64 (0))],.v (.bool false)])):=by
 refine Con.frzA ?_
 have ck:=z7 (oS s m) (lim (oM m)) (oE m e) hl
 rw[y7]at ck
 cases hd:j7 m e
 ·rw[hd]at ck
  rw[if_neg (by simp),qm]
  refine Con.of_w (rs:=[.cell 2 29,.tmp 3]) Tryz.func139 rfl Tryz.ntmps139 rfl ?_
  simp(disch:=omega)only[go_sem]
  refine qe (ck) ?_
  simp(disch:=omega)only[go_sem]
  exact qk
 ·rw[hd]at ck
  rw[if_pos rfl]
  refine Con.of_w (rs:=[.cell 2 29,.tmp 3]) Tryz.func139 rfl Tryz.ntmps139 rfl ?_
  simp(disch:=omega)only[go_sem]
  refine qe (ck) ?_
  simp(disch:=omega)only[go_sem]
  exact qk
def pmS(s1:Bool)(m1:Nat)(s2:Bool)(m2:Nat):Bool:=(s1 != s2)&&decide (m1*m2≠0)
end Go.Ab
namespace Go.Ab
open Go Go.Proofs
theorem apo(s1:Bool)(m1:Nat)(s2:Bool)(m2:Nat)(l1:(lim m1).length≤2^40)(l2:(lim m2).length≤2^40)(z1:m1=0→s1=false)(z2:m2=0→s2=false):
  Con Tryz.prog 158 true [.ag [.v (.bool (s1)),.sl (lim (m1)).length (qb (lim (m1)))],.ag [.v (.bool (s2)),.sl (lim (m2)).length (qb (lim (m2)))]] [] (isA (.v (.int .i64 (zg (sv s1 m1) (sv s2 m2))))):=by
 rw[K1 z1 z2]
 cases s1<;>cases s2
 ·refine Con.of_w (rs:=[.tmp 4]) Tryz.func158 rfl Tryz.ntmps158 rfl ?_
  simp(disch:=omega)only[go_sem]
  refine qe (ZP m1 m2 l1 l2) ?_
  simp(disch:=omega)only[go_sem]
  exact qy
 ·refine Con.of_w (rs:=[.tmp 4]) Tryz.func158 rfl Tryz.ntmps158 rfl ?_
  simp(disch:=omega)only[go_sem]
  exact qy
 ·refine Con.of_w (rs:=[.tmp 4]) Tryz.func158 rfl Tryz.ntmps158 rfl ?_
  simp(disch:=omega)only[go_sem]
  exact qy
 ·refine Con.of_w (rs:=[.tmp 4]) Tryz.func158 rfl Tryz.ntmps158 rfl ?_
  simp(disch:=omega)only[go_sem]
  refine qe (ZP m2 m1 l2 l1) ?_
  simp(disch:=omega)only[go_sem]
  exact qy
theorem KM(K:Nat)(s1:Bool)(m1:Nat)(e1:Int)(s2:Bool)(m2:Nat)(e2:Int)(h1:bl m1≤4000000)(h2:bl m2≤4000000)(he1: -1000000≤e1∧e1≤1000000)(he2: -1000000≤e2∧e2≤1000000)(k1: -(K:Int)≤e1)(k2: -(K:Int)≤e2)(z1:m1=0→s1=false)(z2:m2=0→s2=false):
  Con Tryz.prog 74 true [.ag [.v (.bool (s1)),.sl (lim (m1)).length (qb (lim (m1))),.v (.int .i64 (e1))],.ag [.v (.bool (s2)),.sl (lim (m2)).length (qb (lim (m2))),.v (.int .i64 (e2))]] [] (isA (.v (.int .i64 (zg (dv K s1 m1 e1) (dv K s2 m2 e2))))):=by
 have hE:=Z0 (m1:=m1) (m2:=m2) he1.1 he2.1
 have b1:=qB (QJ (e:=e1) (E:=alE m1 e1 m2 e2) (C:=2000000) h1 (by omega))
 have b2:=qB (QJ (e:=e2) (E:=alE m1 e1 m2 e2) (C:=2000000) h2 (by omega))
 rw[←aek k1 k2]
 have y1:alA m1 e1 (alE m1 e1 m2 e2)=0→s1=false:=fun h=>z1 (Qc.1 h)
 have y2:alA m2 e2 (alE m1 e1 m2 e2)=0→s2=false:=fun h=>z2 (Qc.1 h)
 refine Con.of_w (rs:=[.tmp 4]) Tryz.func74 rfl Tryz.ntmps74 rfl ?_
 simp(disch:=omega)only[go_sem]
 refine qa (ZM s1 m1 e1 s2 m2 e2 h1 h2 he1 he2 z1 z2) ?_
 simp(disch:=omega)only[go_sem]
 refine qe (apo s1 (alA m1 e1 (alE m1 e1 m2 e2)) s2 (alA m2 e2 (alE m1 e1 m2 e2)) (by omega) (by omega) y1 y2) ?_
 simp(disch:=omega)only[go_sem]
 exact qy
theorem JG(s1:Bool)(m1:Nat)(e1:Int)(s2:Bool)(m2:Nat)(e2:Int)(h1:dyB s1 (lim m1) e1=true)(h2:dyB s2 (lim m2) e2=true):
  Con Tryz.prog 18 true [.ag [.v (.bool (s1)),.sl (lim (m1)).length (qb (lim (m1))),.v (.int .i64 (e1))],.ag [.v (.bool (s2)),.sl (lim (m2)).length (qb (lim (m2))),.v (.int .i64 (e2))]] [] (isA (.v (.int .i64 (zg (dv 3000 s1 m1 e1) (dv 3000 s2 m2 e2))))):=by
 obtain⟨n1,q1,b1,c1,d1,_,f1⟩:=Qq h1
 obtain⟨n2,q2,b2,c2,d2,_,f2⟩:=Qq h2
 obtain rfl:=j1 q1
 obtain rfl:=j1 q2
 have k1:=z7 s1 (lim m1) e1 (by omega)
 have k2:=z7 s2 (lim m2) e2 (by omega)
 rw[h1]at k1
 rw[h2]at k2
 refine Con.of_w (rs:=[.tmp 4]) Tryz.func18 rfl Tryz.ntmps18 rfl ?_
 simp(disch:=omega)only[go_sem]
 refine qe (k1) ?_
 simp(disch:=omega)only[go_sem]
 refine qe (k2) ?_
 simp(disch:=omega)only[go_sem]
 refine qe (KM 3000 s1 m1 e1 s2 m2 e2 (by omega) (by omega) (by omega) (by omega) (by omega) (by omega) f1 f2) ?_
 simp(disch:=omega)only[go_sem]
 exact qy
theorem aLG(s:Bool)(m:Nat)(e:Int)(h:dyB s (lim m) e=true):Con Tryz.prog 121 false [.ag [.v (.bool (s)),.sl (lim (m)).length (qb (lim (m))),.v (.int .i64 (e))]] [] (isA (.ag [.v (.bool ((!s)&&decide (m≠0))),.sl (lim (m)).length (qb (lim (m))),.v (.int .i64 (e))])):=by
 refine Con.frzA ?_
 obtain⟨n1,q1,b1,c1,d1,_,f1⟩:=Qq h
 obtain rfl:=j1 q1
 have k1:=z7 s (lim m) e (by omega)
 rw[h]at k1
 refine Con.of_w (rs:=[.cell 2 29]) Tryz.func121 rfl Tryz.ntmps121 rfl ?_
 simp(disch:=omega)only[go_sem]
 refine qe (k1) ?_
 simp(disch:=omega)only[go_sem]
 refine qa (apl s m e (by omega)) ?_
 simp(disch:=omega)only[go_sem]
 exact qk
theorem QH(n:Int)(h: -9223372036854775808≤n∧n<9223372036854775808):Con Tryz.prog 73 false [.v (.int .i64 n)] [] (isA (.ag [.v (.bool (decide (n<0))),.sl (lim (n.natAbs)).length (qb (lim (n.natAbs)))])):=by
 refine Con.frzA ?_
 refine Con.of_w (rs:=[.cell 2 27]) Tryz.func73 rfl Tryz.ntmps73 rfl ?_
 simp(disch:=omega)only[go_sem]
 refine qa (Yp n h) ?_
 simp(disch:=omega)only[go_sem]
 exact qk
theorem aKC(e:Int):Con Tryz.prog 155 true [.v (.int .i64 e)] [] (isA (.v (.bool (decide (-12000≤e)&&decide (e≤12000))))):=by
 refine Con.of_aw Tryz.func155 rfl Tryz.ntmps155 (by simp) (by simp) (by simp) (W.sound ?_)
 show @W Tryz.prog 9 ⟨_⟩ ⟨fun x σ=>@qU _ _ _ ⟨_⟩ _ ⟨_⟩ x σ⟩ _ _
 simp(disch:=omega)only[go_sem]
 repeat' first
  |simp(disch:=omega)only[go_sem, *]
  |(with_reducible refine qg (fun _=>?_) (fun _=>?_))
  |(with_reducible refine zt (fun _=>?_) (fun _=>?_))
  |(with_reducible refine ad8 (fun _=>?_) (fun _=>?_))
  |(with_reducible refine yv (fun _=>?_) (fun _=>?_))
 all_goals exact qx (by simp(disch:=omega)only[go_sem]) (by simp(disch:=omega)only[go_sem]) ⟨by simp_all[zd]<;>omega,rfl,rfl⟩
theorem K0(s:Bool)(m:Nat)(e:Int)(h:zD s (lim m)=true)(he: -12000≤e∧e≤12000):
  Con Tryz.prog 72 false [.ag [.v (.bool (s)),.sl (lim (m)).length (qb (lim (m)))],.v (.int .i64 e)] [] (isA (if j7 m e=true then .tu [.ag [.v (.bool (oS s m)),.sl (lim (oM m)).length (qb (lim (oM m))),.v (.int .i64 (oE m e))],.v (.bool true)]else .tu [.ag [.v (.bool (false)),.sl (lim (0)).length (qb (lim (0))),.v (.int .i64 (0))],.v (.bool false)])):=by
 refine Con.frzA ?_
 have h':=h
 simp only[zD,Bool.and_eq_true]at h'
 obtain⟨_,hl⟩:=QZ h'.1
 have hb:=K5 (m:=m)
 have hb2:=qB (Nat.le_trans (yg (aID m)) hb)
 have k1:=QG s (lim m) (by omega)
 rw[h]at k1
 have k2:=aKC e
 rw[decide_eq_true he.1,decide_eq_true he.2]at k2
 have cf:=aiQ s m e (by omega)
 cases hd:j7 m e
 ·rw[hd,if_neg (by simp),qm]at cf
  rw[if_neg (by simp),qm]
  refine Con.of_w (rs:=[.cell 4 29,.tmp 5]) Tryz.func72 rfl Tryz.ntmps72 rfl ?_
  simp(disch:=omega)only[go_sem]
  refine qe (k1) ?_
  simp(disch:=omega)only[go_sem]
  refine qe (k2) ?_
  simp(disch:=omega)only[go_sem]
  refine qa (Qx s m e (by omega) (by omega)) ?_
  simp(disch:=omega)only[go_sem]
  refine qa (cf) ?_
  simp(disch:=omega)only[go_sem]
  exact qk
 ·rw[hd,if_pos rfl]at cf
  rw[if_pos rfl]
  refine Con.of_w (rs:=[.cell 4 29,.tmp 5]) Tryz.func72 rfl Tryz.ntmps72 rfl ?_
  simp(disch:=omega)only[go_sem]
  refine qe (k1) ?_
  simp(disch:=omega)only[go_sem]
  refine qe (k2) ?_
  simp(disch:=omega)only[go_sem]
  refine qa (Qx s m e (by omega) (by omega)) ?_
  simp(disch:=omega)only[go_sem]
  refine qa (cf) ?_
  simp(disch:=omega)only[go_sem]
  exact qk
theorem aac:tz 1=0:=adO rfl
theorem yG:lim 1=[1]:=by rw[jO (by omega)];simp[qm]
/-! ### Sameness-/
theorem adg(a b:Nat)(la:(lim a).length≤2^40)(lb:(lim b).length≤2^40):Con Tryz.prog 146 true [.ag [.sl (lim (a)).length (qb (lim (a)))],.ag [.sl (lim (b)).length (qb (lim (b)))]] [] (isA (.v (.bool (decide (a=b))))):=by
 refine Con.of_w (rs:=[.tmp 4]) Tryz.func146 rfl Tryz.ntmps146 rfl ?_
 simp(disch:=omega)only[go_sem]
 refine zt (fun h1=>?_) (fun h1=>?_)
 ·simp(disch:=omega)only[go_sem,h1]
  rw[decide_eq_false (fun e=>h1 (by rw[e]))]
  exact qy
 ·have hl:(lim a).length=(lim b).length:=by omega
  simp(disch:=omega)only[go_sem,h1]
  refine qj (fun i:Nat=>[(2,.pt 40000000 0),(3,.pt 50000000 0),(5,.v (.int .i64 i))]) (fun _=>[(40000000,.own 0 [.sl (lim (a)).length (qb (lim (a)))]),(50000000,.own 0 [.sl (lim (b)).length (qb (lim (b)))])])
   (fun i=>i≤(lim a).length∧(lim a).take i=(lim b).take i) (fun i=>(lim a).length-i) 0 ⟨by omega,by simp⟩ (Le.lst [] _ _ rfl (by simp(disch:=omega)only[go_sem];try omega) (by simp(disch:=omega)only[go_sem])) ?_
  rintro i ⟨hi,ht⟩
  simp(disch:=omega)only[go_sem]
  refine qg (fun h2=>?_) (fun h2=>?_)
  ·simp(disch:=omega)only[go_sem,h2]
   refine qp rfl [⟨0,[],[]⟩,⟨1,[],[]⟩,⟨2,[1],[]⟩,⟨3,[],[]⟩,⟨4,[],[]⟩,⟨5,[1,4],[]⟩,⟨6,[1,4],[]⟩,⟨7,[1,4,6],[]⟩,⟨8,[1,4],[]⟩,⟨9,[1,4],[]⟩,⟨10,[],[]⟩] (by kernel_rfl) ?_
   simp(disch:=omega)only[go_sem]
   refine⟨by omega,by omega,by omega,by omega,?_⟩
   refine zt (fun h3=>?_) (fun h3=>?_)
   ·simp(disch:=omega)only[go_sem,h3]
    rw[decide_eq_false (fun e=>h3 (by rw[e]))]
    exact qy
   ·simp(disch:=omega)only[go_sem,h3]
    refine qc (i+1) [] ⟨by omega,?_⟩ (by show(lim a).length-(i+1)<(lim a).length-i;omega) rfl (by simp(disch:=omega)only[go_sem];try omega) (by simp(disch:=omega)only[go_sem])
    rw[jz (l:=lim a) (by omega),jz (l:=lim b) (by omega),ht,h3]
  ·simp(disch:=omega)only[go_sem,h2]
   have:i=(lim a).length:=by omega
   subst this
   have ht2:lim a=lim b:=by
    have h4:=List.take_of_length_le (l:=lim b) (i:=(lim a).length) (by omega)
    rw[List.take_length,h4]at ht
    exact ht
   rw[decide_eq_true (j1 ht2)]
   exact qy
theorem Yl(s1:Bool)(m1:Nat)(s2:Bool)(m2:Nat)(l1:(lim m1).length≤2^40)(l2:(lim m2).length≤2^40):Con Tryz.prog 69 true [.ag [.v (.bool (s1)),.sl (lim (m1)).length (qb (lim (m1)))],.ag [.v (.bool (s2)),.sl (lim (m2)).length (qb (lim (m2)))]] [] (isA (.v (.bool ((s1==s2)&&decide (m1=m2))))):=by
 refine Con.of_w (rs:=[.tmp 4]) Tryz.func69 rfl Tryz.ntmps69 rfl ?_
 cases hs:(s1==s2)
 ·simp(disch:=omega)only[go_sem,hs]
  exact qy
 ·simp(disch:=omega)only[go_sem,hs]
  refine qe (adg m1 m2 l1 l2) ?_
  simp(disch:=omega)only[go_sem]
  exact qy
theorem Jv(s1:Bool)(m1:Nat)(e1:Int)(s2:Bool)(m2:Nat)(e2:Int)(l1:(lim m1).length≤2^40)(l2:(lim m2).length≤2^40):Con Tryz.prog 13 true [.ag [.v (.bool (s1)),.sl (lim (m1)).length (qb (lim (m1))),.v (.int .i64 (e1))],.ag [.v (.bool (s2)),.sl (lim (m2)).length (qb (lim (m2))),.v (.int .i64 (e2))]] [] (isA (.v (.bool (decide (e1=e2)&&((s1==s2)&&decide (m1=m2)))))):=by
 cases he:decide (e1=e2)
 ·have he':¬e1=e2:=by simpa using he
  refine Con.of_w (rs:=[.tmp 4]) Tryz.func13 rfl Tryz.ntmps13 rfl ?_
  simp(disch:=omega)only[go_sem,he']
  exact qy
 ·refine Con.of_w (rs:=[.tmp 4]) Tryz.func13 rfl Tryz.ntmps13 rfl ?_
  simp(disch:=omega)only[go_sem,he]
  refine qe (Yl s1 m1 s2 m2 l1 l2) ?_
  simp(disch:=omega)only[go_sem]
  exact qy
end Go.Ab
namespace Go.Ab
open Go Go.Proofs
theorem KS(e:Int)(he: -3000≤e∧e≤3000):Con Tryz.prog 17 false [.v (.int .i64 1),.v (.int .i64 e)] [] (isA (.ag [.v (.bool (false)),.sl (lim (1)).length (qb (lim (1))),.v (.int .i64 (e))])):=by
 refine Con.frzA ?_
 have hm:oM 1=1:=by unfold oM;rw[aac]
 have hE:oE 1 e=e:=by unfold oE;rw[aac,if_neg (by decide)];simp
 have hf:j7 1 e=true:=by
  unfold j7 jR;rw[hm,hE,yG]
  simp only[Bool.and_eq_true,decide_eq_true_eq]
  exact⟨by decide,by omega,by omega⟩
 have c1:=K0 false 1 e (by rw[yG];decide) (by omega)
 rw[if_pos hf,hm,hE]at c1
 have c0:=QH 1 (by omega)
 have e1:decide ((1:Int)<0)=false:=rfl
 have e2:(1:Int).natAbs=1:=rfl
 rw[e1,e2]at c0
 refine Con.of_aw Tryz.func17 rfl Tryz.ntmps17 (by simp) (by simp) (by simp) (W.sound ?_)
 show @W Tryz.prog 15 ⟨_⟩ ⟨fun x σ=>@qU _ _ _ ⟨_⟩ _ ⟨_⟩ x σ⟩ _ _
 simp(disch:=omega)only[go_sem]
 refine qa (c0) ?_
 simp(disch:=omega)only[go_sem]
 refine qa (c1) ?_
 simp(disch:=omega)only[go_sem]
 refine qK (by simp(disch:=omega)only[go_sem]) ?_
 show qE _ 6 _=_
 rfl
theorem aDW:tz 1024=10:=Q5 (a:=0) (by decide)
theorem aR7:(ExV.can ⟨false,1024, -10⟩)=⟨false,1,0⟩:=by
 show(⟨oS false 1024,oM 1024,oE 1024 (-10)⟩:ExV)=_
 unfold oS oM oE
 rw[aDW];rfl
theorem apU:(ExV.can ⟨false,1, -14⟩)=⟨false,1, -14⟩:=by
 show(⟨oS false 1,oM 1,oE 1 (-14)⟩:ExV)=_
 unfold oS oM oE
 rw[aac];rfl
theorem Yd(x:ExV)(a:Nat)(s:Bool)(e:Int)(h:x.can=⟨s,a,e⟩)(h1:(lim a).length≤100)(h2: -3000≤e∧e≤3000):x.fit=true:=by
 have e1:oM x.m=a:=congrArg ExV.m h
 have e2:oE x.m x.e=e:=congrArg ExV.e h
 unfold ExV.fit j7 jR
 rw[e1,e2]
 simp only[Bool.and_eq_true,decide_eq_true_eq]
 exact⟨h1,h2⟩
theorem adA(n:Nat)(h1:n=1):Con Tryz.prog 70 false [.ag [.v (.int .i64 (n)),.sl ([ex0]).length (qt ExV.cs ([ex0]))],.v (.int .i64 (-10))] [] (isA (.tu [.ag [.v (.int .i64 (n)),.sl ([ex1]).length (qt ExV.cs ([ex1]))],.ag [.v (.bool (false)),.sl (lim (1)).length (qb (lim (1))),.v (.int .i64 (-14))],.v (.bool true)])):=by
 have c:=adz n [ex0] (-10) aDx (by omega) (by rw[h1];rfl) (by omega) (KQ n h1) (apx n h1) (by rw[h1];decide+kernel) (by decide+kernel) (by
  rw[show aDx=[⟨⟨false,16383, -14⟩,⟨false,16385, -14⟩⟩] by decide+kernel,List.all_cons,List.all_nil]
  have t1:tz 16383=0:=adO rfl
  have t2:tz 16385=0:=adO rfl
  have f1:ExV.fit ⟨false,16383, -14⟩=true:=Yd _ 16383 false (-14) (by show(⟨oS false 16383,oM 16383,oE 16383 (-14)⟩:ExV)=_;unfold oS oM oE;rw[t1];rfl) (by have:=qB (m:=16383) (B:=20) (zq.2 (by decide));omega) (by omega)
  have f2:ExV.fit ⟨false,16385, -14⟩=true:=Yd _ 16385 false (-14) (by show(⟨oS false 16385,oM 16385,oE 16385 (-14)⟩:ExV)=_;unfold oS oM oE;rw[t2];rfl) (by have:=qB (m:=16385) (B:=20) (zq.2 (by decide));omega) (by omega)
  unfold SpV.fit
  rw[f1,f2];rfl)
 have eX:aeb n aDx (-10)=[⟨false,1024, -10⟩]:=by rw[h1];decide+kernel
 have eF:jE n aDx (-10)=⟨false,1, -14⟩:=by rw[h1];decide+kernel
 rw[eX,eF]at c
 have f1:ExV.fit ⟨false,1024, -10⟩=true:=Yd _ 1 false 0 aR7 (by rw[yG];decide) (by omega)
 have f2:ExV.fit ⟨false,1, -14⟩=true:=Yd _ 1 false (-14) apU (by rw[yG];decide) (by omega)
 rw[List.all_cons,List.all_nil,f1,f2,if_pos (by rfl),List.map_cons,List.map_nil,aR7,apU]at c
 exact c
set_option maxRecDepth 100000 in
theorem KZ:Con Tryz.prog 14 true [] [] (isA (.v (.bool true))):=by
 obtain⟨n,hn⟩:∃n:Nat,n=1:=⟨1,rfl⟩
 have c:=adA n hn
 have en:(n:Int)=1:=by omega
 have hrow:qt ExV.cs [ex0]=[.v (.bool false),.sl 0 [],.v (.int .i64 0)]:=by
  simp[qt,ExV.cs,ex0,qm,qb]
 rw[en,hrow]at c
 have hr1:qt ExV.cs [ex1]=[.v (.bool false),.sl (lim 1).length (qb (lim 1)),.v (.int .i64 0)]:=by
  simp[qt,ExV.cs,ex1]
 rw[hr1]at c
 have cd1:=KS 0 (by omega)
 have cd2:=KS (-9) (by omega)
 have csd:=Jv false 1 0 false 1 0 (by rw[yG];decide) (by rw[yG];decide)
 rw[show(decide ((0:Int)=0)&&((false==false)&&decide ((1:Nat)=1)))=true from rfl]at csd
 have hb:∀e:Int, -3000≤e∧e≤3000→dyB false (lim 1) e=true:=fun e he=>by
  rw[yG];unfold dyB
  rw[show zD false [1]=true by decide,decide_eq_true he.1,decide_eq_true he.2];rfl
 have ccm:=JG false 1 (-14) false 1 (-9) (hb _ (by omega)) (hb _ (by omega))
 have hle:zg (dv 3000 false 1 (-14)) (dv 3000 false 1 (-9))≤0:=(zL _ _).1.2 (by
  unfold dv sv
  rw[if_neg (by simp),show(-9+((3000:Nat):Int)).toNat=(-14+((3000:Nat):Int)).toNat+5 by rfl,Int.pow_add]
  have:(0:Int)<2^(-14+((3000:Nat):Int)).toNat:=Int.pow_pos (by omega)
  generalize (2:Int)^(-14+((3000:Nat):Int)).toNat=p at*
  omega)
 have q3:decide (zg (dv 3000 false 1 (-14)) (dv 3000 false 1 (-9))≤0)=true:=decide_eq_true hle
 generalize zg (dv 3000 false 1 (-14)) (dv 3000 false 1 (-9))=C at*
 refine Con.of_aw Tryz.func14 rfl Tryz.ntmps14 (by simp) (by simp) (by simp)
  (AW.seqLe (E:=[(0,.v (.bool false))]) (H:=[]) (W.sound ?_) (AW.regSplit (E:=[(0,.v (.bool false)),(7,.ag [.v (.int .i64 1),.sl 1 [.v (.bool false),.sl 0 [],.v (.int .i64 0)]])]) (H:=[]) 3 (by simp only[List.take_succ_cons,List.take_zero];rfl) (by simp only[List.drop_succ_cons,List.drop_zero];rfl) ?_ ?_))
 ·show @W Tryz.prog 38 ⟨_⟩ ⟨_⟩ _ _
  simp(disch:=omega)only[go_sem]
  exact Le.lst [] _ _ rfl (by simp(disch:=omega)only[go_sem]) (by simp(disch:=omega)only[go_sem])
 ·simp(disch:=omega)only[go_sem]
  exact(Le.nilC 80000000 1 (zo:=3) (cs:=[.v (.bool false),.v (.slice none 0 0),.v (.int .i64 0)]) (by simp(disch:=omega)only[go_sem]) rfl).trans ((Le.frz 80000000 (z:=3) (ks:=[.v (.bool false),.sl 0 [],.v (.int .i64 0)]) (by simp(disch:=omega)only[go_sem,List.set_cons_succ,List.set_cons_zero]) rfl (by simp(disch:=omega)only[go_sem])).trans (Le.lst [] _ _ rfl (by simp(disch:=omega)only[go_sem]) (by simp(disch:=omega)only[go_sem])))
 show @Ch Tryz.prog 38 ⟨_⟩ ⟨_⟩ ⟨fun σ=>@W Tryz.prog 38 ⟨_⟩ ⟨fun x σ=>@qU _ _ _ ⟨_⟩ _ ⟨_⟩ x σ⟩ σ.env σ.hp⟩ _ _
 simp(disch:=omega)only[go_sem]
 refine qa (c) ?_
 simp(disch:=omega)only[go_sem]
 refine qp rfl [⟨0,[],[]⟩,⟨1,[],[]⟩,⟨2,[],[]⟩,⟨3,[],[]⟩,⟨4,[],[]⟩,⟨5,[],[]⟩,⟨6,[],[]⟩,⟨7,[],[]⟩,⟨8,[],[]⟩,⟨9,[],[]⟩,⟨10,[],[]⟩,⟨11,[],[]⟩,⟨12,[],[]⟩,⟨13,[],[]⟩,⟨14,[],[]⟩,⟨15,[],[]⟩,⟨16,[],[]⟩,⟨17,[14,16],[]⟩,⟨18,[],[]⟩,⟨19,[],[]⟩,⟨20,[],[]⟩,⟨21,[],[]⟩,⟨22,[21],[]⟩,⟨23,[],[]⟩,⟨24,[],[]⟩,⟨25,[],[]⟩,⟨26,[],[]⟩] (by kernel_rfl) ?_
 simp(disch:=omega)only[go_sem]
 refine qa (cd1) ?_
 simp(disch:=omega)only[go_sem]
 refine qe (csd) ?_
 simp(disch:=omega)only[go_sem]
 refine qa (cd2) ?_
 simp(disch:=omega)only[go_sem]
 refine qe (ccm) ?_
 simp(disch:=omega)only[go_sem]
 simp(disch:=omega)only[go_sem,q3]
 exact qy
end Go.Ab
namespace Go.Ab
end Go.Ab
namespace Go.Ab
open Go Go.Proofs
def ExV.val(K:Nat)(x:ExV):Int:=dv K x.s x.m x.e
theorem jn{x:ExV}(h:x.ok=true):(-3000≤x.e∧x.e≤3000)∧bl x.m≤1600∧(lim x.m).length≤100∧(x.m=0→x.s=false∧x.e=0)∧(x.m % 2=1∨x.m=0):=by
 obtain⟨m,e1,h1,h2,h3,h4,h5⟩:=Qq h
 obtain rfl:=j1 e1
 exact⟨h3,h2,h1,fun h0=>⟨h5 h0,by omega⟩,by omega⟩
theorem an2{x:ExV}(h:x.ok=true):x.can=x:=by
 obtain⟨h1,h2,h3,h4,h5⟩:=jn h
 show(⟨oS x.s x.m,oM x.m,oE x.m x.e⟩:ExV)=x
 obtain⟨s,m,e⟩:=x
 dsimp only at*
 rcases h5 with o|h0
 ·have h0:m≠0:=by omega
  have ht:=adO o
  have g1:oS s m=s:=by unfold oS;rw[if_neg h0]
  have g2:oM m=m:=by have:=@aDp m;rw[ht]at this;simpa using this
  have g3:oE m e=e:=by unfold oE;rw[if_neg h0,ht];simp
  rw[g1,g2,g3]
 ·obtain⟨rfl,rfl⟩:=h4 h0
  rw[h0,Zr];rfl
theorem apT{x:ExV}(h:x.fit=true):x.can.ok=true:=by
 show dyB (oS x.s x.m) (lim (oM x.m)) (oE x.m x.e)=true
 rw[y7];exact h
theorem KB:ex0.ok=true:=by show dyB false (lim 0) 0=true;rw[qm];decide
theorem apS{K:Nat}{x:ExV}(h: -(K:Int)≤x.e):x.can.val K=x.val K:=by
 show dv K (oS x.s x.m) (oM x.m) (oE x.m x.e)=_
 rw[aKw h,aZO];rfl
def ExV.tel(x:ExV):ExV:=if x.fit=true then x.can else ex0
theorem adU(x:ExV):x.tel.ok=true:=by
 unfold ExV.tel;split
 ·rename_i h;exact apT h
 ·exact KB
theorem apb(x y:ExV)(hx:x.ok=true)(hy:y.ok=true):Con Tryz.prog 13 true [.ag [.v (.bool (x).s),.sl (lim (x).m).length (qb (lim (x).m)),.v (.int .i64 (x).e)],.ag [.v (.bool (y).s),.sl (lim (y).m).length (qb (lim (y).m)),.v (.int .i64 (y).e)]] [] (isA (.v (.bool (decide (x=y))))):=by
 have c:=Jv x.s x.m x.e y.s y.m y.e (by have:=(jn hx).2.2.1;omega) (by have:=(jn hy).2.2.1;omega)
 have e:(decide (x.e=y.e)&&((x.s==y.s)&&decide (x.m=y.m)))=decide (x=y):=by
  obtain⟨s,m,e⟩:=x
  obtain⟨t,n,f⟩:=y
  rw[Bool.eq_iff_iff]
  simp only[Bool.and_eq_true,decide_eq_true_eq,beq_iff_eq,ExV.mk.injEq]
  exact⟨fun⟨a,b,c⟩=>⟨b,c,a⟩,fun⟨a,b,c⟩=>⟨c,a,b⟩⟩
 rw[e]at c;exact c
theorem z8(x y:ExV)(hx:x.ok=true)(hy:y.ok=true):Con Tryz.prog 18 true [.ag [.v (.bool (x).s),.sl (lim (x).m).length (qb (lim (x).m)),.v (.int .i64 (x).e)],.ag [.v (.bool (y).s),.sl (lim (y).m).length (qb (lim (y).m)),.v (.int .i64 (y).e)]] [] (isA (.v (.int .i64 (zg (x.val 3000) (y.val 3000))))):=JG x.s x.m x.e y.s y.m y.e hx hy
/-! ### Floats that are numbers-/
def flD(F:FlV):ExV:=⟨oS (xS F.k F.s) F.m.toNat,oM F.m.toNat,oE F.m.toNat F.e⟩
end Go.Ab
namespace Go.Ab
open Go
section
variable {P:Program}{f:FuncId}{args:List AV}{bs:List Ob}{post:AV→List Ob→List Ob→Prop}
theorem Con.frzB(h:Con P f false args bs post)(hm:∀r hs bs',post r hs bs'→(∀ob∈bs',ob.men fun _=>False)∧∀ob∈hs,ob.men fun _=>False):
  Con P f false args bs (fun r' hs' bs'=>hs'=[]∧∃r hs,post r hs bs'∧r'=qE (rhp hs []) 6 r):=by
 intro R ι w vs h1 h2 h3 h4 h5
 refine(h R ι w vs h1 h2 h3 h4 h5).mono ?_
 rintro e w' ⟨x,r,hs,bs',R',ι',he,hp,hF⟩
 obtain⟨mB,mH⟩:=hm _ _ _ hp
 have hfree:∀m,10000000≤m→rhp hs [] m=.free:=fun m hm=>by simp[rhp,hm]
 have hlow:∀m,m<10000000→rhp hs [] m=rhp hs bs' m:=fun m hm=>by unfold rhp;rw[if_neg (by omega),if_neg (by omega)]
 have hnil:∀m,m<10000000→rhp [] bs' m=.free:=fun m hm=>by unfold rhp;rw[if_neg (by omega)];simp
 have hhi:∀m,10000000≤m→rhp [] bs' m=rhp hs bs' m:=fun m hm=>by unfold rhp;rw[if_pos hm,if_pos hm]
 have hsm:∀{m z cs},rhp hs [] m=.own z cs→m<10000000∧rhp hs bs' m=.own z cs:=by
  intro m z cs e
  rcases Nat.lt_or_ge m 10000000 with hm|hm
  ·exact⟨hm,by rw[←hlow m hm];exact e⟩
  ·rw[hfree m hm]at e;cases e
 have hbg:∀{m z cs},rhp [] bs' m=.own z cs→10000000≤m∧rhp hs bs' m=.own z cs:=by
  intro m z cs e
  rcases Nat.lt_or_ge m 10000000 with hm|hm
  ·rw[hnil m hm]at e;cases e
  ·exact⟨hm,by rw[←hhi m hm];exact e⟩
 have hget:∀(l:List Ob) (k z:Nat) (cs:List AV),(∀ob∈l,ob.men fun _=>False)→l.getD k .free=.own z cs→AllL (fun _=>False) cs:=by
  intro l k z cs hl e
  rw[List.getD_eq_getElem?_getD]at e
  rcases Nat.lt_or_ge k l.length with hk|hk
  ·rw[List.getElem?_eq_getElem hk]at e
   have:=hl _ (List.getElem_mem hk)
   simp only[Option.getD_some]at e
   rw[e]at this;exact this
  ·rw[List.getElem?_eq_none hk]at e;cases e
 have hO:HpOk R' ι' w' (rhp hs []):=by
  refine⟨fun m=>?_,fun m z cs B e hB hr=>hF.nR m z cs B (hsm e).2 hB (.inr hr),fun m m' z z' cs cs' B B' e e'=>hF.inj m m' z z' cs cs' B B' (hsm e).2 (hsm e').2,fun m z cs e=>?_⟩
  ·rcases Nat.lt_or_ge m 10000000 with hm|hm
   ·rw[hlow m hm];exact hF.okF m hm
   ·rw[hfree m hm];trivial
  ·have h6:=(hsm e).1
   unfold rhp at e
   rw[if_neg (by omega)]at e
   exact(hget hs m z cs mH e).mono fun _ h=>h.elim
 have hown:∀{m z cs B},rhp hs [] m=.own z cs→ι' m=some B→w.heap.size≤B.b∧B.b<w'.heap.size:=by
  intro m z cs B e hB
  obtain⟨hm,e⟩:=hsm e
  refine⟨hF.fresh m z cs B hm e hB,?_⟩
  have:=hF.okF m hm
  rw[e,hB]at this
  obtain⟨c,T,lo,hi,g1,_⟩:=this
  rcases Nat.lt_or_ge B.b w'.heap.size with h'|h'
  ·exact h'
  ·simp[Array.getElem?_eq_none h']at g1
 refine⟨x,qE (rhp hs []) 6 r,[],bs',fun b=>R' b∨aqw (rhp hs []) ι' b,ι',he,⟨rfl,r,hs,hp,rfl⟩,?_⟩
 refine⟨hF.ext,fun b hb=>?_,fun b hb=>?_,.fr _ _ (zx hO (fun _ h=>.inl h) (fun _ h=>.inr h) 6 hF.rep),je 6 r,fun m hm=>?_,fun m hm=>?_,fun m z cs B e hB=>?_,
  fun m m' z z' cs cs' B B' e e'=>hF.inj m m' z z' cs cs' B B' (hbg e).2 (hbg e').2,fun m z cs e=>?_,fun m z cs B hm e=>?_,hF.len,hF.bown,hF.bnf⟩
 ·rcases hb with hb|⟨m,z,cs,B,e,hB,rfl⟩
  ·exact hF.rlt b hb
  ·exact(hown e hB).2
 ·rcases hb with hb|⟨m,z,cs,B,e,hB,rfl⟩
  ·exact hF.rnew b hb
  ·exact .inl (hown e hB).1
 ·rw[hnil m hm];trivial
 ·rw[hhi m hm]
  exact(hF.okB m hm).mono (fun _ _=>rfl) (fun _ _ _ _ _=>rfl) (fun b hb=>hb.elim .inl fun h=>.inr (.inl h)) (fun z cs e=>AllL.of_mem fun a _=>AV.all_true (fun _=>rfl) a)
 ·obtain⟨hm,e⟩:=hbg e
  have h6:=hF.nR m z cs B e hB
  rintro(hr|hr|⟨m',z',cs',B',e',hB',hb⟩)
  ·exact h6 (.inl hr)
  ·exact h6 (.inr hr)
  ·obtain⟨hm',e'⟩:=hsm e'
   have:=hF.inj m' m z' z cs' cs B' B e' e hB' hB hb
   omega
 ·have h6:=(hbg e).1
  unfold rhp at e
  rw[if_pos h6]at e
  exact(hget bs' _ z cs mB e).mono fun _ h=>h.elim
 ·rw[hnil m hm]at e;cases e
end
end Go.Ab
namespace Go.Ab
open Go
structure IvV where
 lo:DyV
 hi:DyV
def IvV.cs(x:IvV):List AV:=x.lo.cs++x.hi.cs
def dy0:DyV:=⟨false,[],0⟩
def iv0:IvV:=⟨dy0,dy0⟩
theorem aDv(x:IvV):x.cs.length=6:=rfl
theorem aDu{ρ:Nat→Nat}(x:IvV):zS ρ x.cs=x.cs:=rfl
theorem aoC{hp:Nat→Ob}{k:Nat}(x:IvV):x.cs.map (qE hp (k+1))=x.cs:=rfl
theorem aDw{p:Nat→Prop}(x:IvV):AllL p x.cs:=by simp[IvV.cs,DyV.cs,AllL,AV.All]
theorem aJj{l:List IvV}:(qt IvV.cs l).length=l.length*6:=Zj aDv
theorem aJi{ρ:Nat→Nat}{l:List IvV}:zS ρ (qt IvV.cs l)=qt IvV.cs l:=Zi aDu
theorem aAH{hp:Nat→Ob}{k:Nat}{l:List IvV}:(qt IvV.cs l).map (qE hp (k+1))=qt IvV.cs l:=yV aoC
theorem aJk{p:Nat→Prop}{l:List IvV}:AllL p (qt IvV.cs l)=True:=eq_true (Zk aDw)
theorem aAI{p:Nat→Prop}{x:IvV}:AllL p x.cs=True:=eq_true (aDw x)
attribute [go_sem] aJj aJi aAH aJk aAI aDu aoC
end Go.Ab
namespace Go.Ab
open Go Go.Proofs
section
variable (g:Nat)(p:IvV→Bool)
theorem ai4(x:IvV)(hf:Con Tryz.prog g true [.ag x.cs] [] (isA (.v (.bool (p x)))))(hg:qo Tryz.prog g=True):
  Con Tryz.prog 244 true [.ag x.cs,.fp [.fn g []] 0] [] (isA (.v (.bool (!p x)))):=by
 unfold IvV.cs DyV.cs at hf ⊢
 refine Con.of_w (rs:=[.tmp 3]) Tryz.func244 rfl Tryz.ntmps244 rfl ?_
 simp(disch:=omega)only[go_sem,hg]
 refine qz hf (by simp(disch:=omega)only[go_sem]) ?_
 rintro r hs ⟨rfl,rfl,_⟩
 refine⟨by simp[qN],?_⟩
 simp(disch:=omega)only[go_sem]
 exact qy
theorem ado(f:Nat)(caps:List AV)(xs:List IvV)(hl:xs.length≤2^40)(hf:∀x∈xs,Con Tryz.prog f true (.ag x.cs::caps) [] (isA (.v (.bool (p x)))))(hg:qo Tryz.prog f=True)
  (hc:∀h:Nat→Ob,caps.map (qE h 6)=caps) (hc5:∀h:Nat→Ob,caps.map (qE h 5)=caps) (hn:∀ks,AllL (jS ks) caps) (hr:∀ρ,zS ρ caps=caps):
  Con Tryz.prog 286 true [.sl xs.length (qt IvV.cs xs),.fn f caps] [] (fun r hs bs=>∃i:Int,r=.v (.int .i64 i)∧hs=[]∧(0≤i↔∃x∈xs,p x=true)):=by
 refine Con.of_aw Tryz.func286 rfl Tryz.ntmps286 (by simp) (by simp) (by simp) (W.sound ?_)
 show @W Tryz.prog 19 ⟨_⟩ ⟨fun x σ=>@qU _ _ _ ⟨_⟩ _ ⟨_⟩ x σ⟩ _ _
 simp(disch:=omega)only[go_sem]
 refine qj (fun i:Nat=>[(0,.sl xs.length (qt IvV.cs xs)),(1,.fn f caps),(6,.sl xs.length (qt IvV.cs xs)),(7,.v (.int .i64 xs.length)),(8,.v (.int .i64 i))])
  (fun _=>[]) (fun i=>i≤xs.length∧∀j,j<i→p (xs.getD j iv0)=false) (fun i=>xs.length-i) 0 ⟨by omega,fun j hj=>by omega⟩ (Le.lst [] _ _ rfl (by simp(disch:=omega)only[go_sem,hr,hn]) (by simp(disch:=omega)only[go_sem])) ?_
 rintro i ⟨hi,hp⟩
 simp(disch:=omega)only[go_sem]
 refine qg (fun h1=>?_) (fun h1=>?_)
 ·have hcut:=JT (l:=xs) aDv (i:=i) (by omega) iv0
  simp(disch:=omega)only[go_sem,h1,hcut,hg]
  refine⟨by omega,by omega,qz (hf (xs.getD i iv0) (by rw[List.getD_eq_getElem?_getD,List.getElem?_eq_getElem (by omega)];exact List.getElem_mem _)) (by simp(disch:=omega)only[go_sem,hc,hc5]) ?_⟩
  rintro r hs ⟨rfl,rfl,_⟩
  refine⟨by simp[qN],?_⟩
  simp(disch:=omega)only[go_sem]
  refine yv (fun h2=>?_) (fun h2=>?_)
  ·simp(disch:=omega)only[go_sem,h2]
   refine qx (by simp(disch:=omega)only[go_sem]) (by simp(disch:=omega)only[go_sem]) ⟨i,rfl,rfl,?_⟩
   refine⟨fun _=>⟨_,?_,h2⟩,fun _=>by omega⟩
   rw[List.getD_eq_getElem?_getD,List.getElem?_eq_getElem (by omega)];exact List.getElem_mem _
  ·simp(disch:=omega)only[go_sem,h2]
   refine qc (i+1) [] ⟨by omega,fun j hj=>?_⟩ (by show xs.length-(i+1)<xs.length-i;omega) rfl (by simp(disch:=omega)only[go_sem,hr,hn];try omega) (by simp(disch:=omega)only[go_sem])
   rcases(by omega:j<i∨j=i)with h|h
   ·exact hp j h
   ·subst h;exact h2
 ·simp(disch:=omega)only[go_sem,h1]
  refine qx (by simp(disch:=omega)only[go_sem]) (by simp(disch:=omega)only[go_sem]) ⟨-1,rfl,rfl,?_⟩
  refine⟨fun h=>by omega,fun⟨x,hx,hpx⟩=>?_⟩
  obtain⟨j,hj,rfl⟩:=List.getElem_of_mem hx
  have:=hp j (by omega)
  rw[List.getD_eq_getElem?_getD,List.getElem?_eq_getElem hj]at this
  simp only[Option.getD_some]at this
  rw[this]at hpx;cases hpx
theorem Z8(f:Nat)(caps:List AV)(xs:List IvV)(hl:xs.length≤2^40)(hf:∀x∈xs,Con Tryz.prog f true (.ag x.cs::caps) [] (isA (.v (.bool (p x)))))(hg:qo Tryz.prog f=True)
  (hc:∀h:Nat→Ob,caps.map (qE h 6)=caps) (hc5:∀h:Nat→Ob,caps.map (qE h 5)=caps) (hn:∀ks,AllL (jS ks) caps) (hr:∀ρ,zS ρ caps=caps):
  Con Tryz.prog 243 true [.sl xs.length (qt IvV.cs xs),.fn f caps] [] (isA (.v (.bool (xs.any p)))):=by
 refine Con.of_aw Tryz.func243 rfl Tryz.ntmps243 (by simp) (by simp) (by simp) (W.sound ?_)
 show @W Tryz.prog 9 ⟨_⟩ ⟨fun x σ=>@qU _ _ _ ⟨_⟩ _ ⟨_⟩ x σ⟩ _ _
 simp(disch:=omega)only[go_sem]
 refine qz (ado p f caps xs hl hf hg hc hc5 hn hr) (by simp(disch:=omega)only[go_sem,hc,hc5]) ?_
 rintro r hs ⟨i,rfl,rfl,hi⟩
 refine⟨by simp[qN],?_⟩
 simp(disch:=omega)only[go_sem]
 refine qx (by simp(disch:=omega)only[go_sem]) (by simp(disch:=omega)only[go_sem]) ⟨?_,rfl,rfl⟩
 have:decide (0≤i)=xs.any p:=by rw[Bool.eq_iff_iff,decide_eq_true_eq,hi,List.any_eq_true]
 rw[this];rfl
theorem apG(xs:List IvV)(hl:xs.length≤2^40)(hf:∀x∈xs,Con Tryz.prog g true [.ag x.cs] [] (isA (.v (.bool (p x)))))(hg:qo Tryz.prog g=True):
  Con Tryz.prog 174 true [.sl xs.length (qt IvV.cs xs),.fn g []] [] (isA (.v (.bool (xs.all p)))):=by
 refine Con.of_aw Tryz.func174 rfl Tryz.ntmps174 (by simp) (by simp) (by simp) (W.sound ?_)
 show @W Tryz.prog 9 ⟨_⟩ ⟨fun x σ=>@qU _ _ _ ⟨_⟩ _ ⟨_⟩ x σ⟩ _ _
 simp(disch:=omega)only[go_sem]
 refine qz (Z8 (fun x=> !p x) 244 [.fp [.fn g []] 0] xs hl (fun x hx=>ai4 g p x (hf x hx) hg) (by simp(disch:=omega)only[go_sem]) (fun h=>rfl) (fun h=>rfl) (fun ks=>by simp(disch:=omega)only[go_sem]) (fun ρ=>rfl)) (by simp(disch:=omega)only[go_sem]) ?_
 rintro r hs ⟨rfl,rfl,_⟩
 refine⟨by simp[qN],?_⟩
 simp(disch:=omega)only[go_sem]
 refine qx (by simp(disch:=omega)only[go_sem]) (by simp(disch:=omega)only[go_sem]) ⟨?_,rfl,rfl⟩
 have:(!xs.any fun x=> !p x)=xs.all p:=by rw[List.all_eq_not_any_not]
 rw[this];rfl
end
end Go.Ab
namespace Go.Ab
open Go Go.Proofs
/-! ### Intervals that were drawn,and those that are valid-/
def DyV.ex(d:DyV):ExV:=⟨d.s,(vl d.xs).toNat,d.e⟩
def ExV.dyv(x:ExV):DyV:=⟨x.s,lim x.m,x.e⟩
theorem aKo(x:ExV):x.dyv.ex=x:=by unfold ExV.dyv DyV.ex;rw[qZ,Int.toNat_natCast]
theorem aiB{d:DyV}(h:d.ok=true):d=d.ex.dyv∧d.ex.ok=true:=by
 obtain⟨s,xs,e⟩:=d
 obtain⟨m,hm, -⟩:=Qq (show dyB s xs e=true from h)
 subst hm
 have e1:(DyV.mk s (lim m) e).ex=⟨s,m,e⟩:=aKo ⟨s,m,e⟩
 rw[e1]
 exact⟨rfl,h⟩
def ivB(v:IvV):Bool:=v.lo.ok&&(v.hi.ok&&decide (v.lo.ex.val 3000≤v.hi.ex.val 3000))
def IvV.sp(v:IvV):SpV:=⟨v.lo.ex,v.hi.ex⟩
def SpV.iv(s:SpV):IvV:=⟨s.lo.dyv,s.hi.dyv⟩
def SpV.ok(s:SpV):Bool:=s.lo.ok&&(s.hi.ok&&decide (s.lo.val 3000≤s.hi.val 3000))
theorem Kt(s:SpV):ivB s.iv=s.ok:=by
 unfold ivB SpV.ok SpV.iv
 rw[aKo,aKo];rfl
theorem aJl{v:IvV}(h:ivB v=true):∃s:SpV,v=s.iv∧s.ok=true:=by
 have h':=h
 simp only[ivB,Bool.and_eq_true]at h'
 obtain⟨lo,hi⟩:=v
 have e:(⟨lo,hi⟩:IvV)=(IvV.sp ⟨lo,hi⟩).iv:=by
  show _=IvV.mk lo.ex.dyv hi.ex.dyv
  rw[←(aiB h'.1).1,←(aiB h'.2.1).1]
 exact⟨_,e,by rw[←Kt,←e];exact h⟩
theorem zY{s:SpV}(h:s.ok=true):s.lo.ok=true∧s.hi.ok=true∧s.lo.val 3000≤s.hi.val 3000:=by
 simpa [SpV.ok]using h
theorem zM{s:SpV}(h:s.ok=true):s.bd (-3000) 4600:=⟨Qj (zY h).1,Qj (zY h).2.1⟩
theorem aKH{K:Nat}{x y:ExV}(h1: -(K:Int)≤x.e)(h2: -(K:Int)≤y.e):x.cmp y=zg (x.val K) (y.val K):=by
 unfold ExV.cmp
 exact aek h1 h2
theorem JH{x y:ExV}(hx:x.ok=true)(hy:y.ok=true):x.cmp y=zg (x.val 3000) (y.val 3000):=aKH (jn hx).1.1 (jn hy).1.1
theorem adu(a b:DyV)(ha:a.xs.length≤1000)(hb:b.xs.length≤1000):Con Tryz.prog 161 true [.sl 2 [.v (.bool a.s),.sl a.xs.length (qb a.xs),.v (.int .i64 a.e),.v (.bool b.s),.sl b.xs.length (qb b.xs),.v (.int .i64 b.e)]] [] (isA (.v (.bool (a.ok&&b.ok)))):=by
 have c:=JF [a,b] (by simp) (by intro x hx;simp at hx;rcases hx with rfl|rfl<;>omega)
 rw[show [a,b].all DyV.ok=(a.ok&&b.ok) by simp]at c
 exact c
theorem aej(v:IvV)(h1:v.lo.xs.length≤1000)(h2:v.hi.xs.length≤1000):Con Tryz.prog 94 true [.ag [.v (.bool (v).lo.s),.sl (v).lo.xs.length (qb (v).lo.xs),.v (.int .i64 (v).lo.e),.v (.bool (v).hi.s),.sl (v).hi.xs.length (qb (v).hi.xs),.v (.int .i64 (v).hi.e)]] [] (isA (.v (.bool (ivB v)))):=by
 unfold ivB
 have ca:=adu v.lo v.hi h1 h2
 cases k1:v.lo.ok
 ·rw[k1]at ca
  refine Con.of_aw Tryz.func94 rfl Tryz.ntmps94 (by simp) (by simp) (by simp) (W.sound ?_)
  show @W Tryz.prog 19 ⟨_⟩ ⟨fun x σ=>@qU _ _ _ ⟨_⟩ _ ⟨_⟩ x σ⟩ _ _
  simp(disch:=omega)only[go_sem]
  refine qp rfl [⟨0,[],[]⟩,⟨1,[],[]⟩,⟨2,[1],[]⟩,⟨3,[1],[]⟩,⟨4,[],[]⟩,⟨5,[],[]⟩,⟨6,[],[]⟩,⟨7,[],[]⟩,⟨8,[],[]⟩,⟨10,[8],[]⟩,⟨11,[8],[]⟩,⟨9,[11],[]⟩,⟨12,[],[]⟩,⟨13,[],[]⟩,⟨14,[],[]⟩,⟨15,[],[]⟩,⟨16,[],[]⟩] (by kernel_rfl) ?_
  simp(disch:=omega)only[go_sem]
  refine qe (ca) ?_
  simp(disch:=omega)only[go_sem]
  exact qy
 cases k2:v.hi.ok
 ·rw[k1,k2]at ca
  refine Con.of_aw Tryz.func94 rfl Tryz.ntmps94 (by simp) (by simp) (by simp) (W.sound ?_)
  show @W Tryz.prog 19 ⟨_⟩ ⟨fun x σ=>@qU _ _ _ ⟨_⟩ _ ⟨_⟩ x σ⟩ _ _
  simp(disch:=omega)only[go_sem]
  refine qp rfl [⟨0,[],[]⟩,⟨1,[],[]⟩,⟨2,[1],[]⟩,⟨3,[1],[]⟩,⟨4,[],[]⟩,⟨5,[],[]⟩,⟨6,[],[]⟩,⟨7,[],[]⟩,⟨8,[],[]⟩,⟨10,[8],[]⟩,⟨11,[8],[]⟩,⟨9,[11],[]⟩,⟨12,[],[]⟩,⟨13,[],[]⟩,⟨14,[],[]⟩,⟨15,[],[]⟩,⟨16,[],[]⟩] (by kernel_rfl) ?_
  simp(disch:=omega)only[go_sem]
  refine qe (ca) ?_
  simp(disch:=omega)only[go_sem]
  exact qy
 ·rw[k1,k2]at ca
  obtain⟨lo,hi⟩:=v
  dsimp only at k1 k2 ca ⊢
  obtain⟨e1,o1⟩:=aiB k1
  obtain⟨e2,o2⟩:=aiB k2
  generalize lo.ex=x at*
  generalize hi.ex=y at*
  subst e1 e2
  unfold ExV.dyv at*
  refine Con.of_aw Tryz.func94 rfl Tryz.ntmps94 (by simp) (by simp) (by simp) (W.sound ?_)
  show @W Tryz.prog 19 ⟨_⟩ ⟨fun x σ=>@qU _ _ _ ⟨_⟩ _ ⟨_⟩ x σ⟩ _ _
  simp(disch:=omega)only[go_sem]
  refine qp rfl [⟨0,[],[]⟩,⟨1,[],[]⟩,⟨2,[1],[]⟩,⟨3,[1],[]⟩,⟨4,[],[]⟩,⟨5,[],[]⟩,⟨6,[],[]⟩,⟨7,[],[]⟩,⟨8,[],[]⟩,⟨10,[8],[]⟩,⟨11,[8],[]⟩,⟨9,[11],[]⟩,⟨12,[],[]⟩,⟨13,[],[]⟩,⟨14,[],[]⟩,⟨15,[],[]⟩,⟨16,[],[]⟩] (by kernel_rfl) ?_
  simp(disch:=omega)only[go_sem]
  refine qe (ca) ?_
  simp(disch:=omega)only[go_sem]
  refine qa (zl x.s x.m x.e) ?_
  simp(disch:=omega)only[go_sem]
  refine qa (zl y.s y.m y.e) ?_
  simp(disch:=omega)only[go_sem]
  refine qe (jh x y ((Qj o1).mono (by omega) (by omega)) ((Qj o2).mono (by omega) (by omega))) ?_
  simp(disch:=omega)only[go_sem]
  refine qx (by simp(disch:=omega)only[go_sem]) (by simp(disch:=omega)only[go_sem]) ⟨?_,rfl,rfl⟩
  rw[JH o1 o2]
  show AV.v (.bool _)=AV.v (.bool (true&&(true&&decide (ExV.val 3000 x≤ExV.val 3000 y))))
  rw[Bool.true_and,Bool.true_and]
  congr 2
  exact decide_eq_decide.2 (zL _ _).1
theorem ai3(l:List IvV)(hl:l.length≤1000)(hx:∀v∈l,v.lo.xs.length≤1000∧v.hi.xs.length≤1000):Con Tryz.prog 88 true [.sl l.length (qt IvV.cs l)] [] (isA (.v (.bool (l.all ivB)))):=by
 refine Con.of_w (rs:=[.tmp 2]) Tryz.func88 rfl Tryz.ntmps88 rfl ?_
 simp(disch:=omega)only[go_sem]
 refine qe (apG 94 ivB l (by omega) (fun v h=>aej v (hx v h).1 (hx v h).2) (by simp(disch:=omega)only[go_sem])) ?_
 simp(disch:=omega)only[go_sem]
 exact qy
def ais(v:IvV):Prop:=v.lo.xs.length≤1000∧v.hi.xs.length≤1000
theorem yL(a b:IvV)(ha:ais a)(hb:ais b):Con Tryz.prog 88 true [.sl 2 [.v (.bool a.lo.s),.sl a.lo.xs.length (qb a.lo.xs),.v (.int .i64 a.lo.e),.v (.bool a.hi.s),.sl a.hi.xs.length (qb a.hi.xs),.v (.int .i64 a.hi.e),.v (.bool b.lo.s),.sl b.lo.xs.length (qb b.lo.xs),.v (.int .i64 b.lo.e),.v (.bool b.hi.s),.sl b.hi.xs.length (qb b.hi.xs),.v (.int .i64 b.hi.e)]] []
  (isA (.v (.bool (ivB a&&ivB b)))):=by
 have c:=ai3 [a,b] (by simp) (by intro x hx;simp at hx;rcases hx with rfl|rfl;exact ha;exact hb)
 rw[show [a,b].all ivB=(ivB a&&ivB b) by simp]at c
 exact c
theorem j2{s:SpV}(h:s.ok=true):ais s.iv:=by
 have h1:=jn (zY h).1
 have h2:=jn (zY h).2.1
 exact⟨by show(lim s.lo.m).length≤1000;omega,by show(lim s.hi.m).length≤1000;omega⟩
theorem jt(a b:SpV)(ha:a.ok=true)(hb:b.ok=true):Con Tryz.prog 88 true [.sl 2 [.v (.bool a.lo.s),.sl (lim a.lo.m).length (qb (lim a.lo.m)),.v (.int .i64 a.lo.e),.v (.bool a.hi.s),.sl (lim a.hi.m).length (qb (lim a.hi.m)),.v (.int .i64 a.hi.e),.v (.bool b.lo.s),.sl (lim b.lo.m).length (qb (lim b.lo.m)),.v (.int .i64 b.lo.e),.v (.bool b.hi.s),.sl (lim b.hi.m).length (qb (lim b.hi.m)),.v (.int .i64 b.hi.e)]] []
  (isA (.v (.bool true))):=by
 have c:=yL a.iv b.iv (j2 ha) (j2 hb)
 rw[Kt,Kt,ha,hb]at c
 exact c
theorem ZS(s:SpV)(h:s.ok=true):Con Tryz.prog 94 true [.ag [.v (.bool (s).lo.s),.sl (lim (s).lo.m).length (qb (lim (s).lo.m)),.v (.int .i64 (s).lo.e),.v (.bool (s).hi.s),.sl (lim (s).hi.m).length (qb (lim (s).hi.m)),.v (.int .i64 (s).hi.e)]] [] (isA (.v (.bool true))):=by
 have c:=aej s.iv (j2 h).1 (j2 h).2
 rw[Kt,h]at c
 exact c
theorem qY(s:SpV):Con Tryz.prog 89 false [.ag [.v (.bool (s).lo.s),.sl (lim (s).lo.m).length (qb (lim (s).lo.m)),.v (.int .i64 (s).lo.e),.v (.bool (s).hi.s),.sl (lim (s).hi.m).length (qb (lim (s).hi.m)),.v (.int .i64 (s).hi.e)]] [] (isA (.ag [.v (.bool (s).lo.s),.sl (lim (s).lo.m).length (qb (lim (s).lo.m)),.v (.int .i64 (s).lo.e),.v (.bool (s).hi.s),.sl (lim (s).hi.m).length (qb (lim (s).hi.m)),.v (.int .i64 (s).hi.e)])):=by
 refine Con.frzA ?_
 refine Con.of_w (rs:=[.cell 2 111]) Tryz.func89 rfl Tryz.ntmps89 rfl ?_
 simp(disch:=omega)only[go_sem]
 refine qp rfl [⟨0,[],[]⟩,⟨1,[],[]⟩,⟨3,[1],[]⟩,⟨4,[1],[]⟩,⟨2,[4],[]⟩,⟨5,[],[]⟩,⟨6,[],[]⟩,⟨7,[],[]⟩] (by kernel_rfl) ?_
 simp(disch:=omega)only[go_sem]
 refine qa (zl s.lo.s s.lo.m s.lo.e) ?_
 simp(disch:=omega)only[go_sem]
 refine qa (zl s.hi.s s.hi.m s.hi.e) ?_
 simp(disch:=omega)only[go_sem]
 exact qk
theorem ZJ(s:SpV)(x:ExV)(hs:s.ok=true)(hx:x.ok=true):Con Tryz.prog 97 true [.ag [.v (.bool (s).lo.s),.sl (lim (s).lo.m).length (qb (lim (s).lo.m)),.v (.int .i64 (s).lo.e),.v (.bool (s).hi.s),.sl (lim (s).hi.m).length (qb (lim (s).hi.m)),.v (.int .i64 (s).hi.e)],.ag [.v (.bool (x).s),.sl (lim (x).m).length (qb (lim (x).m)),.v (.int .i64 (x).e)]] [] (isA (.v (.bool (decide (s.lo.val 3000≤x.val 3000)&&decide (x.val 3000≤s.hi.val 3000))))):=by
 obtain⟨o1,o2, -⟩:=zY hs
 have c1:=jh s.lo x ((Qj o1).mono (by omega) (by omega)) ((Qj hx).mono (by omega) (by omega))
 have c2:=jh x s.hi ((Qj hx).mono (by omega) (by omega)) ((Qj o2).mono (by omega) (by omega))
 rw[JH o1 hx]at c1
 rw[JH hx o2]at c2
 have e1:decide (zg (s.lo.val 3000) (x.val 3000)≤0)=decide (s.lo.val 3000≤x.val 3000):=decide_eq_decide.2 (zL _ _).1
 have e2:decide (zg (x.val 3000) (s.hi.val 3000)≤0)=decide (x.val 3000≤s.hi.val 3000):=decide_eq_decide.2 (zL _ _).1
 refine Con.of_aw Tryz.func97 rfl Tryz.ntmps97 (by simp) (by simp) (by simp) (W.sound ?_)
 show @W Tryz.prog 17 ⟨_⟩ ⟨fun x σ=>@qU _ _ _ ⟨_⟩ _ ⟨_⟩ x σ⟩ _ _
 simp(disch:=omega)only[go_sem]
 refine qe (c1) ?_
 simp(disch:=omega)only[go_sem]
 cases h1:decide (s.lo.val 3000≤x.val 3000)
 ·simp(disch:=omega)only[go_sem,e1,h1]
  exact qy
 ·simp(disch:=omega)only[go_sem,e1,h1]
  refine qe (c2) ?_
  simp(disch:=omega)only[go_sem]
  exact qx (by simp(disch:=omega)only[go_sem]) (by simp(disch:=omega)only[go_sem]) ⟨by rw[e2];rfl,rfl,rfl⟩
theorem JJ{m c:Nat}{hp:Nat→Ob}{K:KV}(x y:ExV)(hx:x.bd (-400000) 400000)(hy:y.bd (-400000) 400000)
  (hk:K (.ag [.v (.bool (q5 [x,y]).s),.sl (lim (q5 [x,y]).m).length (qb (lim (q5 [x,y]).m)),.v (.int .i64 (q5 [x,y]).e)]) (upd hp m (.own 3 [.v (.bool x.s),.sl (lim x.m).length (qb (lim x.m)),.v (.int .i64 x.e),.v (.bool y.s),.sl (lim y.m).length (qb (lim y.m)),.v (.int .i64 y.e)])))
  (hm:hp m=.own 3 [.v (.bool x.s),.sl (lim x.m).length (qb (lim x.m)),.v (.int .i64 x.e),.v (.bool y.s),.sl (lim y.m).length (qb (lim y.m)),.v (.int .i64 y.e)]:=by simp(disch:=omega)only[go_sem]):@QR Tryz.prog 93 [.rf m 0 2] hp c ⟨K⟩:=by
 refine yd false [m] (ZK [x,y] (by simp) (by simp) (fun z hz=>?_)) (by simp[snp,idx]) (by rw[Ql,hm];rfl) rfl (qM hm (of_eq_true (ac6 (l:=[x,y])))) (by intro n hn;exact⟨_,List.mem_cons_self ..,by rw[List.mem_singleton.1 hn];rfl⟩) ?_
 ·simp only[List.mem_cons,List.not_mem_nil,or_false]at hz
  rcases hz with rfl|rfl
  ·exact hx
  ·exact hy
 rintro r hs bs ⟨rfl,rfl,rfl⟩-
 exact⟨⟨by simp,trivial,fun h=>by cases h⟩,hk⟩
theorem ZV{m c:Nat}{hp:Nat→Ob}{K:KV}(x y:ExV)(hx:x.bd (-400000) 400000)(hy:y.bd (-400000) 400000)
  (hk:K (.ag [.v (.bool (qJ [x,y]).s),.sl (lim (qJ [x,y]).m).length (qb (lim (qJ [x,y]).m)),.v (.int .i64 (qJ [x,y]).e)]) (upd hp m (.own 3 [.v (.bool x.s),.sl (lim x.m).length (qb (lim x.m)),.v (.int .i64 x.e),.v (.bool y.s),.sl (lim y.m).length (qb (lim y.m)),.v (.int .i64 y.e)])))
  (hm:hp m=.own 3 [.v (.bool x.s),.sl (lim x.m).length (qb (lim x.m)),.v (.int .i64 x.e),.v (.bool y.s),.sl (lim y.m).length (qb (lim y.m)),.v (.int .i64 y.e)]:=by simp(disch:=omega)only[go_sem]):@QR Tryz.prog 92 [.rf m 0 2] hp c ⟨K⟩:=by
 refine yd false [m] (aiO [x,y] (by simp) (by simp) (fun z hz=>?_)) (by simp[snp,idx]) (by rw[Ql,hm];rfl) rfl (qM hm (of_eq_true (ac6 (l:=[x,y])))) (by intro n hn;exact⟨_,List.mem_cons_self ..,by rw[List.mem_singleton.1 hn];rfl⟩) ?_
 ·simp only[List.mem_cons,List.not_mem_nil,or_false]at hz
  rcases hz with rfl|rfl
  ·exact hx
  ·exact hy
 rintro r hs bs ⟨rfl,rfl,rfl⟩-
 exact⟨⟨by simp,trivial,fun h=>by cases h⟩,hk⟩
def zh(s t:SpV):SpV:=⟨q5 [s.lo,t.lo],qJ [s.hi,t.hi]⟩
def jp(s t:SpV):SpV:=⟨qJ [s.lo,t.lo],q5 [s.hi,t.hi]⟩
theorem aog{x y:ExV}(hx:x.ok=true)(hy:y.ok=true):(q5 [x,y]).ok=true∧(q5 [x,y]).val 3000=if x.val 3000<y.val 3000 then y.val 3000 else x.val 3000:=by
 show(j0 x y).ok=true∧(j0 x y).val 3000=_
 unfold j0
 rw[JH hy hx]
 by_cases h:x.val 3000<y.val 3000
 ·have:0<zg (y.val 3000) (x.val 3000):=by unfold zg;rw[if_neg (by omega),if_pos h];omega
  rw[if_pos this,if_pos h];exact⟨hy,rfl⟩
 ·have:¬0<zg (y.val 3000) (x.val 3000):=by unfold zg;split<;>(try split)<;>omega
  rw[if_neg this,if_neg h];exact⟨hx,rfl⟩
theorem Kp{x y:ExV}(hx:x.ok=true)(hy:y.ok=true):(qJ [x,y]).ok=true∧(qJ [x,y]).val 3000=if y.val 3000<x.val 3000 then y.val 3000 else x.val 3000:=by
 show(z6 x y).ok=true∧(z6 x y).val 3000=_
 unfold z6
 rw[JH hy hx]
 by_cases h:y.val 3000<x.val 3000
 ·rw[if_pos ((zL _ _).2.1.2 h),if_pos h];exact⟨hy,rfl⟩
 ·rw[if_neg (fun h'=>h ((zL _ _).2.1.1 h')),if_neg h];exact⟨hx,rfl⟩
theorem aiJ(s t:SpV)(hs:s.ok=true)(ht:t.ok=true):Con Tryz.prog 90 false [.ag [.v (.bool (s).lo.s),.sl (lim (s).lo.m).length (qb (lim (s).lo.m)),.v (.int .i64 (s).lo.e),.v (.bool (s).hi.s),.sl (lim (s).hi.m).length (qb (lim (s).hi.m)),.v (.int .i64 (s).hi.e)],.ag [.v (.bool (t).lo.s),.sl (lim (t).lo.m).length (qb (lim (t).lo.m)),.v (.int .i64 (t).lo.e),.v (.bool (t).hi.s),.sl (lim (t).hi.m).length (qb (lim (t).hi.m)),.v (.int .i64 (t).hi.e)]] [] (isA (.tu [.ag [.v (.bool (zh s t).lo.s),.sl (lim (zh s t).lo.m).length (qb (lim (zh s t).lo.m)),.v (.int .i64 (zh s t).lo.e),.v (.bool (zh s t).hi.s),.sl (lim (zh s t).hi.m).length (qb (lim (zh s t).hi.m)),.v (.int .i64 (zh s t).hi.e)],.v (.bool (decide ((zh s t).lo.val 3000≤(zh s t).hi.val 3000)))])):=by
 refine Con.frzA ?_
 have bs:=zM hs
 have bt:=zM ht
 have o1:=(aog (zY hs).1 (zY ht).1).1
 have o2:=(Kp (zY hs).2.1 (zY ht).2.1).1
 have cc:=jh _ _ ((Qj o1).mono (by omega) (by omega)) ((Qj o2).mono (by omega) (by omega))
 rw[JH o1 o2]at cc
 have e1:decide (zg ((q5 [s.lo,t.lo]).val 3000) ((qJ [s.hi,t.hi]).val 3000)≤0)=decide ((q5 [s.lo,t.lo]).val 3000≤(qJ [s.hi,t.hi]).val 3000):=decide_eq_decide.2 (zL _ _).1
 unfold zh
 refine Con.of_w (rs:=[.cell 4 111,.tmp 5]) Tryz.func90 rfl Tryz.ntmps90 rfl ?_
 simp(disch:=omega)only[go_sem]
 refine qp rfl [⟨0,[],[]⟩,⟨1,[],[]⟩,⟨2,[1],[]⟩,⟨3,[1],[]⟩,⟨6,[1,3],[]⟩,⟨7,[1,3],[]⟩,⟨8,[1,3,7],[]⟩,⟨9,[1,3,7],[]⟩,⟨4,[7,9],[]⟩,⟨10,[1,3],[130000000]⟩,⟨13,[1,3,7,9],[130000000,190000000]⟩,⟨5,[7,9],[190000000,80000000]⟩,⟨11,[],[80000000]⟩,⟨12,[],[80000000]⟩,⟨14,[],[]⟩] (by kernel_rfl) ?_
 simp(disch:=omega)only[go_sem]
 refine JJ s.lo t.lo (bs.1.mono (by omega) (by omega)) (bt.1.mono (by omega) (by omega)) ?_
 simp(disch:=omega)only[go_sem]
 refine ZV s.hi t.hi (bs.2.mono (by omega) (by omega)) (bt.2.mono (by omega) (by omega)) ?_
 generalize q5 [s.lo,t.lo]=x at*
 generalize qJ [s.hi,t.hi]=y at*
 simp(disch:=omega)only[go_sem]
 refine qp rfl [⟨0,[],[]⟩,⟨1,[0],[]⟩,⟨2,[0],[]⟩,⟨3,[0,2],[]⟩,⟨4,[0,2],[]⟩,⟨5,[0],[]⟩,⟨6,[0],[]⟩,⟨7,[],[]⟩,⟨8,[],[]⟩] (by kernel_rfl) ?_
 simp(disch:=omega)only[go_sem]
 refine qe (cc) ?_
 simp(disch:=omega)only[go_sem]
 exact qk (hp:=by simp(disch:=omega)only[go_sem,e1])
theorem aDo{x:ExV}(h:x.ok=true):x.fit=true:=by
 show j7 x.m x.e=true
 rw[←y7 x.s x.m x.e]
 exact(show x.can.ok=true by rw[an2 h];exact h)
def SpV.tel(s:SpV):SpV:=if s.fit=true then s.can else sp0
theorem j9(s:SpV)(hs:s.bd (-400000) 400000):Con Tryz.prog 91 false [.ag [.v (.bool (s).lo.s),.sl (lim (s).lo.m).length (qb (lim (s).lo.m)),.v (.int .i64 (s).lo.e),.v (.bool (s).hi.s),.sl (lim (s).hi.m).length (qb (lim (s).hi.m)),.v (.int .i64 (s).hi.e)]] [] (isA (.tu [.ag [.v (.bool (s.tel).lo.s),.sl (lim (s.tel).lo.m).length (qb (lim (s.tel).lo.m)),.v (.int .i64 (s.tel).lo.e),.v (.bool (s.tel).hi.s),.sl (lim (s.tel).hi.m).length (qb (lim (s.tel).hi.m)),.v (.int .i64 (s.tel).hi.e)],.v (.bool s.fit)])):=by
 have c:=KG s hs
 unfold SpV.tel
 cases hf:s.fit<;>rw[hf]at c<;>exact c
theorem Qg{s:SpV}(h:s.ok=true):s.tel=s∧s.fit=true:=by
 obtain⟨o1,o2, -⟩:=zY h
 have f1:s.fit=true:=by
  unfold SpV.fit
  have:=aDo o1
  have:=aDo o2
  simp[*]
 unfold SpV.tel
 rw[if_pos f1]
 exact⟨by unfold SpV.can;rw[an2 o1,an2 o2],f1⟩
theorem aoj{s t:SpV}(hs:s.ok=true)(ht:t.ok=true)(h:(zh s t).lo.val 3000≤(zh s t).hi.val 3000):(zh s t).ok=true:=by
 unfold SpV.ok
 rw[decide_eq_true h,show(zh s t).lo.ok=true from(aog (zY hs).1 (zY ht).1).1,show(zh s t).hi.ok=true from(Kp (zY hs).2.1 (zY ht).2.1).1]
 rfl
theorem aoB{s t:SpV}(hs:s.ok=true)(ht:t.ok=true):(jp s t).ok=true:=by
 obtain⟨a1,a2,a3⟩:=zY hs
 obtain⟨b1,b2,b3⟩:=zY ht
 obtain⟨c1,c2⟩:=Kp a1 b1
 obtain⟨d1,d2⟩:=aog a2 b2
 have:(qJ [s.lo,t.lo]).val 3000≤(q5 [s.hi,t.hi]).val 3000:=by rw[c2,d2];split<;>split<;>omega
 unfold SpV.ok
 rw[show(jp s t).lo.ok=true from c1,show(jp s t).hi.ok=true from d1,show decide ((jp s t).lo.val 3000≤(jp s t).hi.val 3000)=true from decide_eq_true this]
 rfl
def Z5(s t:SpV):SpV:=if(zh s t).lo.val 3000≤(zh s t).hi.val 3000 then zh s t else sp0
theorem adw(s t:SpV)(hs:s.ok=true)(ht:t.ok=true):Con Tryz.prog 26 false [.ag [.v (.bool (s).lo.s),.sl (lim (s).lo.m).length (qb (lim (s).lo.m)),.v (.int .i64 (s).lo.e),.v (.bool (s).hi.s),.sl (lim (s).hi.m).length (qb (lim (s).hi.m)),.v (.int .i64 (s).hi.e)],.ag [.v (.bool (t).lo.s),.sl (lim (t).lo.m).length (qb (lim (t).lo.m)),.v (.int .i64 (t).lo.e),.v (.bool (t).hi.s),.sl (lim (t).hi.m).length (qb (lim (t).hi.m)),.v (.int .i64 (t).hi.e)]] [] (isA (.tu [.ag [.v (.bool (Z5 s t).lo.s),.sl (lim (Z5 s t).lo.m).length (qb (lim (Z5 s t).lo.m)),.v (.int .i64 (Z5 s t).lo.e),.v (.bool (Z5 s t).hi.s),.sl (lim (Z5 s t).hi.m).length (qb (lim (Z5 s t).hi.m)),.v (.int .i64 (Z5 s t).hi.e)],.v (.bool (decide ((zh s t).lo.val 3000≤(zh s t).hi.val 3000)))])):=by
 refine Con.frzA ?_
 have ca:=jt s t hs ht
 have cm:=aiJ s t hs ht
 unfold Z5
 by_cases h:(zh s t).lo.val 3000≤(zh s t).hi.val 3000
 ·have ok:=aoj hs ht h
  have ci:=j9 (zh s t) ⟨(zM ok).1.mono (by omega) (by omega),(zM ok).2.mono (by omega) (by omega)⟩
  rw[(Qg ok).1,(Qg ok).2]at ci
  rw[decide_eq_true h]at cm ⊢
  rw[if_pos h]
  generalize zh s t=y at*
  refine Con.of_w (rs:=[.cell 4 50,.tmp 5]) Tryz.func26 rfl Tryz.ntmps26 rfl ?_
  simp(disch:=omega)only[go_sem]
  refine qe (ca) ?_
  simp(disch:=omega)only[go_sem]
  refine qp rfl [⟨0,[],[]⟩,⟨2,[0],[]⟩,⟨8,[0,2],[]⟩,⟨1,[2],[80000000]⟩,⟨3,[],[80000000]⟩,⟨4,[],[80000000]⟩,⟨5,[],[80000000]⟩,⟨6,[],[80000000]⟩,⟨7,[],[80000000]⟩,⟨9,[],[]⟩,⟨10,[],[]⟩] (by kernel_rfl) ?_
  simp(disch:=omega)only[go_sem]
  refine qa (qY s) ?_
  simp(disch:=omega)only[go_sem]
  refine qa (qY t) ?_
  simp(disch:=omega)only[go_sem]
  refine qa (cm) ?_
  simp(disch:=omega)only[go_sem]
  refine qa (ci) ?_
  simp(disch:=omega)only[go_sem]
  exact qk
 ·rw[decide_eq_false h]at cm ⊢
  rw[if_neg h]
  generalize zh s t=y at*
  refine Con.of_w (rs:=[.cell 4 50,.tmp 5]) Tryz.func26 rfl Tryz.ntmps26 rfl ?_
  simp(disch:=omega)only[go_sem]
  refine qe (ca) ?_
  simp(disch:=omega)only[go_sem]
  refine qp rfl [⟨0,[],[]⟩,⟨2,[0],[]⟩,⟨8,[0,2],[]⟩,⟨1,[2],[80000000]⟩,⟨3,[],[80000000]⟩,⟨4,[],[80000000]⟩,⟨5,[],[80000000]⟩,⟨6,[],[80000000]⟩,⟨7,[],[80000000]⟩,⟨9,[],[]⟩,⟨10,[],[]⟩] (by kernel_rfl) ?_
  simp(disch:=omega)only[go_sem]
  refine qa (qY s) ?_
  simp(disch:=omega)only[go_sem]
  refine qa (qY t) ?_
  simp(disch:=omega)only[go_sem]
  refine qa (cm) ?_
  simp(disch:=omega)only[go_sem]
  exact qk (hp:=by simp(disch:=omega)only[go_sem,sp0,ex0,qm,List.length_nil,zy])
theorem y9(a b:IvV)(ha:ais a)(hb:ais b)(h:(ivB a&&ivB b)=false):Con Tryz.prog 26 false [.ag [.v (.bool (a).lo.s),.sl (a).lo.xs.length (qb (a).lo.xs),.v (.int .i64 (a).lo.e),.v (.bool (a).hi.s),.sl (a).hi.xs.length (qb (a).hi.xs),.v (.int .i64 (a).hi.e)],.ag [.v (.bool (b).lo.s),.sl (b).lo.xs.length (qb (b).lo.xs),.v (.int .i64 (b).lo.e),.v (.bool (b).hi.s),.sl (b).hi.xs.length (qb (b).hi.xs),.v (.int .i64 (b).hi.e)]] [] (isA (.tu [.ag [.v (.bool (sp0).lo.s),.sl (lim (sp0).lo.m).length (qb (lim (sp0).lo.m)),.v (.int .i64 (sp0).lo.e),.v (.bool (sp0).hi.s),.sl (lim (sp0).hi.m).length (qb (lim (sp0).hi.m)),.v (.int .i64 (sp0).hi.e)],.v (.bool false)])):=by
 refine Con.frzA ?_
 have ca:=yL a b ha hb
 rw[h]at ca
 refine Con.of_w (rs:=[.cell 4 50,.tmp 5]) Tryz.func26 rfl Tryz.ntmps26 rfl ?_
 simp(disch:=omega)only[go_sem]
 refine qe (ca) ?_
 simp(disch:=omega)only[go_sem]
 exact qk (hp:=by simp(disch:=omega)only[go_sem,sp0,ex0,qm,List.length_nil,zy])
theorem Qa(a b:IvV)(ha:ais a)(hb:ais b)(h:(ivB a&&ivB b)=false):Con Tryz.prog 27 false [.ag [.v (.bool (a).lo.s),.sl (a).lo.xs.length (qb (a).lo.xs),.v (.int .i64 (a).lo.e),.v (.bool (a).hi.s),.sl (a).hi.xs.length (qb (a).hi.xs),.v (.int .i64 (a).hi.e)],.ag [.v (.bool (b).lo.s),.sl (b).lo.xs.length (qb (b).lo.xs),.v (.int .i64 (b).lo.e),.v (.bool (b).hi.s),.sl (b).hi.xs.length (qb (b).hi.xs),.v (.int .i64 (b).hi.e)]] [] (isA (.tu [.ag [.v (.bool (sp0).lo.s),.sl (lim (sp0).lo.m).length (qb (lim (sp0).lo.m)),.v (.int .i64 (sp0).lo.e),.v (.bool (sp0).hi.s),.sl (lim (sp0).hi.m).length (qb (lim (sp0).hi.m)),.v (.int .i64 (sp0).hi.e)],.v (.bool false)])):=by
 refine Con.frzA ?_
 have ca:=yL a b ha hb
 rw[h]at ca
 refine Con.of_w (rs:=[.cell 4 50,.tmp 5]) Tryz.func27 rfl Tryz.ntmps27 rfl ?_
 simp(disch:=omega)only[go_sem]
 refine qe (ca) ?_
 simp(disch:=omega)only[go_sem]
 exact qk (hp:=by simp(disch:=omega)only[go_sem,sp0,ex0,qm,List.length_nil,zy])
theorem adx(s t:SpV)(hs:s.ok=true)(ht:t.ok=true):Con Tryz.prog 27 false [.ag [.v (.bool (s).lo.s),.sl (lim (s).lo.m).length (qb (lim (s).lo.m)),.v (.int .i64 (s).lo.e),.v (.bool (s).hi.s),.sl (lim (s).hi.m).length (qb (lim (s).hi.m)),.v (.int .i64 (s).hi.e)],.ag [.v (.bool (t).lo.s),.sl (lim (t).lo.m).length (qb (lim (t).lo.m)),.v (.int .i64 (t).lo.e),.v (.bool (t).hi.s),.sl (lim (t).hi.m).length (qb (lim (t).hi.m)),.v (.int .i64 (t).hi.e)]] [] (isA (.tu [.ag [.v (.bool (jp s t).lo.s),.sl (lim (jp s t).lo.m).length (qb (lim (jp s t).lo.m)),.v (.int .i64 (jp s t).lo.e),.v (.bool (jp s t).hi.s),.sl (lim (jp s t).hi.m).length (qb (lim (jp s t).hi.m)),.v (.int .i64 (jp s t).hi.e)],.v (.bool true)])):=by
 refine Con.frzA ?_
 have ca:=jt s t hs ht
 have bs:=zM hs
 have bt:=zM ht
 have ok:=aoB hs ht
 have ci:=j9 (jp s t) ⟨(zM ok).1.mono (by omega) (by omega),(zM ok).2.mono (by omega) (by omega)⟩
 rw[(Qg ok).1,(Qg ok).2]at ci
 unfold jp at*
 refine Con.of_w (rs:=[.cell 4 50,.tmp 5]) Tryz.func27 rfl Tryz.ntmps27 rfl ?_
 simp(disch:=omega)only[go_sem]
 refine qe (ca) ?_
 simp(disch:=omega)only[go_sem]
 refine qp rfl [⟨0,[],[]⟩,⟨2,[0],[]⟩,⟨4,[0,2],[]⟩,⟨5,[0,2],[80000000]⟩,⟨1,[2],[80000000,90000000]⟩,⟨3,[],[80000000,90000000]⟩,⟨6,[],[]⟩,⟨7,[],[]⟩] (by kernel_rfl) ?_
 simp(disch:=omega)only[go_sem]
 refine qa (qY s) ?_
 simp(disch:=omega)only[go_sem]
 refine qa (qY t) ?_
 simp(disch:=omega)only[go_sem]
 refine qp rfl [⟨0,[],[]⟩,⟨1,[],[]⟩,⟨2,[1],[]⟩,⟨3,[1],[]⟩,⟨6,[1,3],[]⟩,⟨7,[1,3],[]⟩,⟨8,[1,3,7],[]⟩,⟨9,[1,3,7],[]⟩,⟨4,[7,9],[]⟩,⟨10,[1,3],[240000000]⟩,⟨5,[7,9],[300000000]⟩,⟨11,[],[]⟩,⟨12,[],[]⟩,⟨13,[],[]⟩,⟨14,[],[]⟩,⟨15,[],[]⟩,⟨16,[],[]⟩,⟨17,[],[]⟩] (by kernel_rfl) ?_
 simp(disch:=omega)only[go_sem]
 refine ZV s.lo t.lo (bs.1.mono (by omega) (by omega)) (bt.1.mono (by omega) (by omega)) ?_
 simp(disch:=omega)only[go_sem]
 refine JJ s.hi t.hi (bs.2.mono (by omega) (by omega)) (bt.2.mono (by omega) (by omega)) ?_
 generalize qJ [s.lo,t.lo]=x at*
 generalize q5 [s.hi,t.hi]=y at*
 simp(disch:=omega)only[go_sem]
 refine qa (ci) ?_
 simp(disch:=omega)only[go_sem]
 exact qk
theorem aiW(n:Int):Con Tryz.prog 95 true [.v (.int .i64 n)] [] (isA (.v (.bool (decide (-200≤n)&&decide (n≤200))))):=by
 refine Con.of_w (rs:=[.tmp 2]) Tryz.func95 rfl Tryz.ntmps95 rfl ?_
 simp(disch:=omega)only[go_sem]
 refine qe (zC n (-200) 200) ?_
 simp(disch:=omega)only[go_sem]
 exact qy
theorem out_bd{s:SpV}{lo hi low:Int}(hs:s.bd lo hi)(h1:lo≤low)(h2:low≤hi):(s.out low).bd lo (hi+1):=⟨ExV.rnd_bd hs.1 h1 h2,ExV.rnd_bd hs.2 h1 h2⟩
theorem ai7(s:SpV)(low:Int)(hs:s.ok=true)(hl: -200≤low∧low≤200):Con Tryz.prog 29 false [.ag [.v (.bool (s).lo.s),.sl (lim (s).lo.m).length (qb (lim (s).lo.m)),.v (.int .i64 (s).lo.e),.v (.bool (s).hi.s),.sl (lim (s).hi.m).length (qb (lim (s).hi.m)),.v (.int .i64 (s).hi.e)],.v (.int .i64 low)] [] (isA (.tu [.ag [.v (.bool ((s.out low).tel).lo.s),.sl (lim ((s.out low).tel).lo.m).length (qb (lim ((s.out low).tel).lo.m)),.v (.int .i64 ((s.out low).tel).lo.e),.v (.bool ((s.out low).tel).hi.s),.sl (lim ((s.out low).tel).hi.m).length (qb (lim ((s.out low).tel).hi.m)),.v (.int .i64 ((s.out low).tel).hi.e)],.v (.bool (s.out low).fit)])):=by
 refine Con.frzA ?_
 have bs:=zM hs
 have bo:=out_bd bs (show-3000≤low by omega) (show low≤4600 by omega)
 have ci:=j9 (s.out low) ⟨bo.1.mono (by omega) (by omega),bo.2.mono (by omega) (by omega)⟩
 have co:=KF s low ⟨bs.1.mono (by omega) (by omega),bs.2.mono (by omega) (by omega)⟩ (by omega)
 have cf:=aiW low
 rw[decide_eq_true hl.1,decide_eq_true hl.2]at cf
 generalize s.out low=y at*
 refine Con.of_w (rs:=[.cell 4 50,.tmp 5]) Tryz.func29 rfl Tryz.ntmps29 rfl ?_
 simp(disch:=omega)only[go_sem]
 refine qe (ZS s hs) ?_
 simp(disch:=omega)only[go_sem]
 refine qe (cf) ?_
 simp(disch:=omega)only[go_sem]
 refine qa (qY s) ?_
 simp(disch:=omega)only[go_sem]
 refine qa (co) ?_
 simp(disch:=omega)only[go_sem]
 refine qa (ci) ?_
 simp(disch:=omega)only[go_sem]
 exact qk
def Jg(s:SpV)(x:ExV):Bool:=decide (s.lo.val 3000≤x.val 3000)&&decide (x.val 3000≤s.hi.val 3000)
theorem zK(s t:SpV)(hs:s.ok=true)(ht:t.ok=true):Con Tryz.prog 30 true [.ag [.v (.bool (s).lo.s),.sl (lim (s).lo.m).length (qb (lim (s).lo.m)),.v (.int .i64 (s).lo.e),.v (.bool (s).hi.s),.sl (lim (s).hi.m).length (qb (lim (s).hi.m)),.v (.int .i64 (s).hi.e)],.ag [.v (.bool (t).lo.s),.sl (lim (t).lo.m).length (qb (lim (t).lo.m)),.v (.int .i64 (t).lo.e),.v (.bool (t).hi.s),.sl (lim (t).hi.m).length (qb (lim (t).hi.m)),.v (.int .i64 (t).hi.e)]] [] (isA (.v (.bool (Jg t s.lo&&Jg t s.hi)))):=by
 have ca:=jt s t hs ht
 have c1:=ZJ t s.lo ht (zY hs).1
 have c2:=ZJ t s.hi ht (zY hs).2.1
 unfold Jg
 generalize (decide (t.lo.val 3000≤s.lo.val 3000)&&decide (s.lo.val 3000≤t.hi.val 3000))=b1 at*
 generalize (decide (t.lo.val 3000≤s.hi.val 3000)&&decide (s.hi.val 3000≤t.hi.val 3000))=b2 at*
 refine Con.of_w (rs:=[.tmp 4]) Tryz.func30 rfl Tryz.ntmps30 rfl ?_
 simp(disch:=omega)only[go_sem]
 refine qp rfl [⟨0,[],[]⟩,⟨1,[0],[]⟩,⟨2,[],[]⟩,⟨3,[],[]⟩,⟨4,[],[]⟩,⟨5,[],[]⟩,⟨7,[5],[]⟩,⟨8,[5],[]⟩,⟨6,[8],[]⟩,⟨9,[],[]⟩,⟨10,[],[]⟩,⟨11,[],[]⟩,⟨12,[],[]⟩,⟨13,[],[]⟩,⟨15,[13],[]⟩,⟨16,[13],[]⟩,⟨14,[16],[]⟩,⟨17,[],[]⟩,⟨18,[],[]⟩,⟨19,[],[]⟩,⟨20,[],[]⟩] (by kernel_rfl) ?_
 simp(disch:=omega)only[go_sem]
 refine qe (ca) ?_
 simp(disch:=omega)only[go_sem]
 refine qa (qY t) ?_
 simp(disch:=omega)only[go_sem]
 refine qa (zl s.lo.s s.lo.m s.lo.e) ?_
 simp(disch:=omega)only[go_sem]
 refine qe (c1) ?_
 simp(disch:=omega)only[go_sem]
 cases b1
 ·simp(disch:=omega)only[go_sem]
  exact qy
 ·simp(disch:=omega)only[go_sem]
  refine qa (qY t) ?_
  simp(disch:=omega)only[go_sem]
  refine qa (zl s.hi.s s.hi.m s.hi.e) ?_
  simp(disch:=omega)only[go_sem]
  refine qe (c2) ?_
  simp(disch:=omega)only[go_sem]
  exact qy
theorem ai8(s:SpV)(x:ExV)(hs:s.ok=true)(hx:x.ok=true):Con Tryz.prog 86 true [.ag [.v (.bool (s).lo.s),.sl (lim (s).lo.m).length (qb (lim (s).lo.m)),.v (.int .i64 (s).lo.e),.v (.bool (s).hi.s),.sl (lim (s).hi.m).length (qb (lim (s).hi.m)),.v (.int .i64 (s).hi.e)],.ag [.v (.bool (x).s),.sl (lim (x).m).length (qb (lim (x).m)),.v (.int .i64 (x).e)]] [] (isA (.v (.bool (Jg s x)))):=by
 have k1:=aei x.s (lim x.m) x.e (by have:=(jn hx).2.2.1;omega)
 rw[show dyB x.s (lim x.m) x.e=true from hx]at k1
 refine Con.of_w (rs:=[.tmp 4]) Tryz.func86 rfl Tryz.ntmps86 rfl ?_
 simp(disch:=omega)only[go_sem]
 refine qp rfl [⟨0,[],[]⟩,⟨1,[],[]⟩,⟨2,[],[]⟩,⟨3,[],[]⟩,⟨4,[],[]⟩,⟨5,[],[]⟩,⟨6,[],[]⟩,⟨7,[],[]⟩,⟨9,[7],[]⟩,⟨8,[9],[]⟩,⟨10,[],[]⟩,⟨11,[],[]⟩,⟨12,[],[]⟩,⟨13,[],[]⟩] (by kernel_rfl) ?_
 simp(disch:=omega)only[go_sem]
 refine qe (ZS s hs) ?_
 simp(disch:=omega)only[go_sem]
 refine qe (k1) ?_
 simp(disch:=omega)only[go_sem]
 refine qa (qY s) ?_
 simp(disch:=omega)only[go_sem]
 refine qa (zl x.s x.m x.e) ?_
 simp(disch:=omega)only[go_sem]
 refine qe (ZJ s x hs hx) ?_
 simp(disch:=omega)only[go_sem]
 exact qy
theorem apJ(x y:ExV)(h:SpV.ok ⟨x,y⟩=true):Con Tryz.prog 84 false [.ag [.v (.bool (x).s),.sl (lim (x).m).length (qb (lim (x).m)),.v (.int .i64 (x).e)],.ag [.v (.bool (y).s),.sl (lim (y).m).length (qb (lim (y).m)),.v (.int .i64 (y).e)]] [] (isA (.tu [.ag [.v (.bool (SpV.mk x y).lo.s),.sl (lim (SpV.mk x y).lo.m).length (qb (lim (SpV.mk x y).lo.m)),.v (.int .i64 (SpV.mk x y).lo.e),.v (.bool (SpV.mk x y).hi.s),.sl (lim (SpV.mk x y).hi.m).length (qb (lim (SpV.mk x y).hi.m)),.v (.int .i64 (SpV.mk x y).hi.e)],.v (.bool true)])):=by
 refine Con.frzA ?_
 have ci:=j9 ⟨x,y⟩ ⟨(zM h).1.mono (by omega) (by omega),(zM h).2.mono (by omega) (by omega)⟩
 rw[(Qg h).1,(Qg h).2]at ci
 refine Con.of_w (rs:=[.cell 4 50,.tmp 5]) Tryz.func84 rfl Tryz.ntmps84 rfl ?_
 simp(disch:=omega)only[go_sem]
 refine qe (ZS ⟨x,y⟩ h) ?_
 simp(disch:=omega)only[go_sem]
 refine qa (qY ⟨x,y⟩) ?_
 simp(disch:=omega)only[go_sem]
 refine qa (ci) ?_
 simp(disch:=omega)only[go_sem]
 exact qk
theorem ai9(s t:SpV)(hs:s.ok=true)(ht:t.ok=true):Con Tryz.prog 85 false [.ag [.v (.bool (s).lo.s),.sl (lim (s).lo.m).length (qb (lim (s).lo.m)),.v (.int .i64 (s).lo.e),.v (.bool (s).hi.s),.sl (lim (s).hi.m).length (qb (lim (s).hi.m)),.v (.int .i64 (s).hi.e)],.ag [.v (.bool (t).lo.s),.sl (lim (t).lo.m).length (qb (lim (t).lo.m)),.v (.int .i64 (t).lo.e),.v (.bool (t).hi.s),.sl (lim (t).hi.m).length (qb (lim (t).hi.m)),.v (.int .i64 (t).hi.e)]] [] (isA (.tu [.ag [.v (.bool ((s.plus t).tel).lo.s),.sl (lim ((s.plus t).tel).lo.m).length (qb (lim ((s.plus t).tel).lo.m)),.v (.int .i64 ((s.plus t).tel).lo.e),.v (.bool ((s.plus t).tel).hi.s),.sl (lim ((s.plus t).tel).hi.m).length (qb (lim ((s.plus t).tel).hi.m)),.v (.int .i64 ((s.plus t).tel).hi.e)],.v (.bool (s.plus t).fit)])):=by
 refine Con.frzA ?_
 have ca:=jt s t hs ht
 have bs:=zM hs
 have bt:=zM ht
 have bp:(s.plus t).bd (-3000) 4601:=⟨ExV.plus_bd bs.1 bt.1,ExV.plus_bd bs.2 bt.2⟩
 have ci:=j9 (s.plus t) ⟨bp.1.mono (by omega) (by omega),bp.2.mono (by omega) (by omega)⟩
 have cp:=Qr s t ⟨bs.1.mono (by omega) (by omega),bs.2.mono (by omega) (by omega)⟩ ⟨bt.1.mono (by omega) (by omega),bt.2.mono (by omega) (by omega)⟩
 generalize s.plus t=y at*
 refine Con.of_w (rs:=[.cell 4 50,.tmp 5]) Tryz.func85 rfl Tryz.ntmps85 rfl ?_
 simp(disch:=omega)only[go_sem]
 refine qe (ca) ?_
 simp(disch:=omega)only[go_sem]
 refine qp rfl [⟨0,[],[]⟩,⟨2,[0],[]⟩,⟨1,[2],[]⟩,⟨3,[],[]⟩,⟨4,[],[]⟩,⟨5,[],[]⟩,⟨6,[],[]⟩,⟨7,[],[]⟩,⟨8,[],[]⟩,⟨9,[],[]⟩] (by kernel_rfl) ?_
 simp(disch:=omega)only[go_sem]
 refine qa (qY s) ?_
 simp(disch:=omega)only[go_sem]
 refine qa (qY t) ?_
 simp(disch:=omega)only[go_sem]
 refine qa (cp) ?_
 simp(disch:=omega)only[go_sem]
 refine qa (ci) ?_
 simp(disch:=omega)only[go_sem]
 exact qk
end Go.Ab
namespace Go.Ab
open Go Go.Proofs
def bda(l:List UInt8)(i h:Int):Ob:=.own 0 [.sl l.length (ql l),.v (.int .i64 i),.v (.int .i64 h)]
def KD(l:List UInt8)(Q:AV→Prop):AV→List Ob→List Ob→Prop:=fun r hs bs=>hs=[]∧Q r∧∃i h:Int,(0≤i∧i≤l.length)∧bs=[.own 0 [.sl l.length (ql l),.v (.int .i64 i),.v (.int .i64 h)]]
section
variable {P:Program}{N f c:Nat}{aa0 args:List AV}{hp:Nat→Ob}{K:KV}{Q:AV→Prop}{e:Nat→AV}{l:List UInt8}{i h:Int}
theorem qv{n:Nat}(hc:Con P f false (.pt 10000000 0::args) [.own 0 [.sl l.length (ql l),.v (.int .i64 i),.v (.int .i64 h)]] (KD l Q))
  (hk:∀(r:AV) (i' h':Int),(0≤i'∧i'≤l.length)→Q r→K (r.ren (rho c [n])) (upd hp n (.own 0 [.sl l.length (ql l),.v (.int .i64 i'),.v (.int .i64 h')])))
  (ha:aa0.map (snp (hpx false [n] hp) (idx [n]) 6)=args:=by simp(disch:=omega)only[go_sem]) (hn:hp n=.own 0 [.sl l.length (ql l),.v (.int .i64 i),.v (.int .i64 h)]:=by simp(disch:=omega)only[go_sem]):@QR P f (.pt n 0::aa0) hp c ⟨K⟩:=by
 refine yd false [n] hc (by rw[List.map_cons,ha];simp[snp,idx]) (by rw[Ql,hn];rfl) rfl (qM hn (by simp[AllL,AV.All])) (by intro m hm;rw[List.mem_singleton.1 hm];exact⟨_,List.mem_cons_self ..,rfl⟩) ?_
 rintro r hs bs ⟨rfl,hq,i',h',hi',rfl⟩-
 exact⟨⟨by simp,trivial,fun h=>by cases h⟩,hk r i' h' hi' hq⟩
theorem aDt{ks:List Nat}:∀{l:List AV},AllL (jS []) l→leL [] ks l l
 | [],_=>trivial
 |a::r,h=>⟨⟨anU a,h.1.mono fun _ h=>h.elim⟩,aDt h.2⟩
theorem qL{vs:List AV}(i h:Int)(hq:Q (zd vs))(hi:0≤i∧i≤l.length:=by omega)(hh:hp 10000000=.own 0 [.sl l.length (ql l),.v (.int .i64 i),.v (.int .i64 h)]:=by simp(disch:=omega)only[go_sem])
  (hl:AllL (jS []) vs:=by simp(disch:=omega)only[go_sem]):@aDA N false 1 ⟨KD l Q⟩ ⟨e⟩ vs hp:=
 qi [] [] [.own 0 [.sl l.length (ql l),.v (.int .i64 i),.v (.int .i64 h)]] vs rfl (aDt hl) ⟨⟨hh.symm,by simp[Ob.men,AllL,AV.All],trivial⟩,trivial⟩ ⟨rfl,by simp,by simp⟩ (fun h=>by cases h) ⟨rfl,hq,i,h,hi,rfl⟩
end
def ban(l:List UInt8)(xs:List Int)(Q:AV→Prop):AV→List Ob→List Ob→Prop:=fun r hs bs=>hs=[]∧Q r∧∃i h:Int,(0≤i∧i≤l.length)∧bs=[.own 0 [.sl l.length (ql l),.v (.int .i64 i),.v (.int .i64 h)],.own 1 (qb xs)]
section
variable {P:Program}{N f c:Nat}{aa0 args:List AV}{hp:Nat→Ob}{K:KV}{Q:AV→Prop}{e:Nat→AV}{l:List UInt8}{i h:Int}
theorem ye{n m k:Nat}{xs:List Int}(hc:Con P f false [.pt 10000000 0,.rf 10000001 0 xs.length] [.own 0 [.sl l.length (ql l),.v (.int .i64 i),.v (.int .i64 h)],.own 1 (qb xs)] (ban l xs Q))
  (hk:∀(r:AV) (i' h':Int),(0≤i'∧i'≤l.length)→Q r→K (r.ren (rho c [n,m])) (upd (upd hp n (.own 0 [.sl l.length (ql l),.v (.int .i64 i'),.v (.int .i64 h')])) m (.own 1 (qb xs))))
  (hx:xs.length=k:=by rfl)
  (hn:hp n=.own 0 [.sl l.length (ql l),.v (.int .i64 i),.v (.int .i64 h)]:=by simp(disch:=omega)only[go_sem]) (hm:hp m=.own 1 (qb xs):=by simp(disch:=omega)only[go_sem];rfl)
  (hd:QE [n,m]=true:=by rfl):@QR P f [.pt n 0,.rf m 0 k] hp c ⟨K⟩:=by
 have hnm:¬m=n:=by
  have:=(jC hd)
  simp only[List.nodup_cons,List.mem_singleton]at this
  exact fun h=>this.1 h.symm
 subst hx
 refine yd false [n,m] hc (by simp[snp,idx,hnm]) (by rw[Ql,Ql,hn,hm];simp only[Ob.ren,Zl,Ql];rfl) hd (aAD hn (by simp[AllL,AV.All]) hm Q1) (by intro q hq;simp only[List.mem_cons,List.not_mem_nil,or_false]at hq;rcases hq with rfl|rfl<;>simp[AV.top]) ?_
 rintro r hs bs ⟨rfl,hq,i',h',hi',rfl⟩-
 refine⟨⟨by simp,trivial,fun h=>by cases h⟩,?_⟩
 have:=hk r i' h' hi' hq
 simp only[List.map_cons,List.map_nil,Ob.ren,Zl]
 exact this
end
section
variable (l:List UInt8)(hl:l.length≤9223372036854775807)(i h:Int)(hi:0≤i∧i≤l.length)
include hl hi
theorem jH:Con Tryz.prog 207 false [.pt 10000000 0] [.own 0 [.sl l.length (ql l),.v (.int .i64 i),.v (.int .i64 h)]] (KD l fun r=>∃k:Int,(0≤k∧k≤255)∧r=.v (.int .i64 k)):=by
 refine Con.of_aw Tryz.func207 rfl Tryz.ntmps207 (by simp) (by simp) (by simp) (W.sound ?_)
 show @W Tryz.prog 58 ⟨_⟩ ⟨fun x σ=>@qU _ _ _ ⟨_⟩ _ ⟨_⟩ x σ⟩ _ _
 simp(disch:=omega)only[go_sem]
 generalize IntKind.i64.wrap (IntKind.i64.wrap (h*6364136223846793005)+1442695040888963407)=h1
 refine qp rfl [⟨0,[],[]⟩,⟨1,[],[]⟩,⟨2,[],[]⟩,⟨3,[],[]⟩,⟨4,[],[]⟩,⟨5,[3],[]⟩,⟨6,[3],[]⟩,⟨7,[3],[]⟩,⟨8,[3],[]⟩,⟨9,[3],[]⟩,⟨10,[],[]⟩,⟨11,[],[]⟩,⟨12,[],[]⟩] (by kernel_rfl) ?_
 simp(disch:=omega)only[go_sem]
 generalize baf (h1.fdiv (2^min 33 64)) (h1.fdiv (2^min 45 64))=y
 have hy:0≤y % 256∧y % 256<256:=by omega
 generalize y % 256=x at*
 refine qp rfl [⟨0,[],[]⟩,⟨1,[],[]⟩,⟨2,[],[]⟩,⟨3,[],[]⟩,⟨4,[3],[]⟩,⟨5,[3],[]⟩,⟨6,[3],[]⟩,⟨7,[3],[]⟩,⟨8,[3],[]⟩,⟨9,[],[]⟩] (by kernel_rfl) ?_
 simp(disch:=omega)only[go_sem]
 refine qg (fun c1=>?_) (fun c1=>?_)
 ·simp(disch:=omega)only[go_sem,c1]
  refine qp rfl [⟨0,[],[]⟩,⟨1,[],[]⟩,⟨2,[],[]⟩,⟨3,[],[]⟩,⟨4,[],[]⟩,⟨5,[4],[]⟩,⟨6,[4],[]⟩,⟨7,[4],[]⟩,⟨8,[4],[]⟩,⟨9,[],[]⟩,⟨10,[],[]⟩,⟨11,[],[]⟩,⟨12,[],[]⟩,⟨13,[],[]⟩,⟨14,[],[]⟩] (by kernel_rfl) ?_
  simp(disch:=omega)only[go_sem]
  refine⟨by omega,by omega,?_⟩
  generalize IntKind.i64.wrap (x+IntKind.i64.wrap ((l.getD i.toNat 0).toNat:Int))=y2
  have hy2:0≤y2 % 256∧y2 % 256<256:=by omega
  refine qL (i+1) (h1) ⟨_,by omega,rfl⟩
 ·simp(disch:=omega)only[go_sem,c1]
  refine qL (i) (h1) ⟨_,by omega,rfl⟩
theorem qT(n:Int)(hn:n≤2^62):Con Tryz.prog 130 false [.pt 10000000 0,.v (.int .i64 n)] [.own 0 [.sl l.length (ql l),.v (.int .i64 i),.v (.int .i64 h)]] (KD l fun r=>∃k:Int,(0≤k∧(0<n→k<n))∧r=.v (.int .i64 k)):=by
 refine Con.of_aw Tryz.func130 rfl Tryz.ntmps130 (by simp) (by simp) (by simp) (W.sound ?_)
 show @W Tryz.prog 37 ⟨_⟩ ⟨fun x σ=>@qU _ _ _ ⟨_⟩ _ ⟨_⟩ x σ⟩ _ _
 simp(disch:=omega)only[go_sem]
 refine qg (fun c1=>?_) (fun c1=>?_)
 ·simp(disch:=omega)only[go_sem,c1]
  refine qL (i) (h) ⟨_,⟨by omega,fun h=>by omega⟩,rfl⟩
 ·simp(disch:=omega)only[go_sem,c1]
  refine qg (fun c2=>?_) (fun c2=>?_)
  ·simp(disch:=omega)only[go_sem,c2]
   refine qv (jH l hl i h hi) ?_
   rintro r i1 h1 hi1 ⟨k1,hk1,rfl⟩
   simp(disch:=omega)only[go_sem]
   refine⟨by omega,?_⟩
   have hm:=Int.emod_nonneg k1 (show n≠0 by omega)
   have hm2:=Int.emod_lt_of_pos k1 (show 0<n by omega)
   refine qL (i1) (h1) ⟨_,⟨hm,fun _=>hm2⟩,rfl⟩
  ·simp(disch:=omega)only[go_sem,c2]
   refine qv (jH l hl i h hi) ?_
   rintro r i1 h1 hi1 ⟨k1,hk1,rfl⟩
   simp(disch:=omega)only[go_sem]
   refine qv (jH l hl i1 h1 hi1) ?_
   rintro r i2 h2 hi2 ⟨k2,hk2,rfl⟩
   simp(disch:=omega)only[go_sem]
   refine qv (jH l hl i2 h2 hi2) ?_
   rintro r i3 h3 hi3 ⟨k3,hk3,rfl⟩
   simp(disch:=omega)only[go_sem]
   refine qv (jH l hl i3 h3 hi3) ?_
   rintro r i4 h4 hi4 ⟨k4,hk4,rfl⟩
   simp(disch:=omega)only[go_sem]
   refine⟨by omega,?_⟩
   have hm:=Int.emod_nonneg (k1*16777216+k2*65536+k3*256+k4) (show n≠0 by omega)
   have hm2:=Int.emod_lt_of_pos (k1*16777216+k2*65536+k3*256+k4) (show 0<n by omega)
   refine qL (i4) (h4) ⟨_,⟨hm,fun _=>hm2⟩,rfl⟩
theorem qP(n:Int)(hn:n≤2^62):Con Tryz.prog 58 false [.pt 10000000 0,.v (.int .i64 n)] [.own 0 [.sl l.length (ql l),.v (.int .i64 i),.v (.int .i64 h)]] (KD l fun r=>∃b:Bool,r=.v (.bool b)):=by
 refine Con.of_aw Tryz.func58 rfl Tryz.ntmps58 (by simp) (by simp) (by simp) (W.sound ?_)
 show @W Tryz.prog 9 ⟨_⟩ ⟨fun x σ=>@qU _ _ _ ⟨_⟩ _ ⟨_⟩ x σ⟩ _ _
 simp(disch:=omega)only[go_sem]
 refine qv (qT l hl i h hi n hn) ?_
 rintro r i1 h1 hi1 ⟨k1,hk1,rfl⟩
 simp(disch:=omega)only[go_sem]
 refine qL (i1) (h1) ⟨_,rfl⟩
theorem zJ(xs:List Int)(h0:0<xs.length)(h1:xs.length≤2^40):Con Tryz.prog 131 false [.pt 10000000 0,.rf 10000001 0 xs.length] [.own 0 [.sl l.length (ql l),.v (.int .i64 i),.v (.int .i64 h)],.own 1 (qb xs)] (ban l xs fun r=>∃x∈xs,r=.v (.int .i64 x)):=by
 refine Con.of_aw Tryz.func131 rfl Tryz.ntmps131 (by simp) (by simp) (by simp) (W.sound ?_)
 show @W Tryz.prog 12 ⟨_⟩ ⟨fun x σ=>@qU _ _ _ ⟨_⟩ _ ⟨_⟩ x σ⟩ _ _
 simp(disch:=omega)only[go_sem]
 refine qv (qT l hl i h hi xs.length (by omega)) ?_
 rintro r i1 h1 hi1 ⟨k1,hk1,rfl⟩
 simp(disch:=omega)only[go_sem]
 obtain⟨n1,rfl⟩:=Int.eq_ofNat_of_zero_le hk1.1
 have hlt:n1<xs.length:=by have:=hk1.2 (by omega);omega
 simp(disch:=omega)only[go_sem]
 refine⟨by omega,by omega,?_⟩
 have hm:xs.getD n1 0∈xs:=by rw[List.getD_eq_getElem?_getD,List.getElem?_eq_getElem hlt];exact List.getElem_mem _
 refine qi [] [] [.own 0 [.sl l.length (ql l),.v (.int .i64 i1),.v (.int .i64 h1)],.own 1 (qb xs)] [.v (.int .i64 (xs.getD n1 0))] rfl (by simp(disch:=omega)only[go_sem]) (by simp(disch:=omega)only[go_sem]) (by simp) (by simp) ⟨rfl,⟨_,hm,rfl⟩,_,_,by omega,rfl⟩
end
end Go.Ab
namespace Go.Ab
open Go Go.Proofs
section
variable (l:List UInt8)(hl:l.length≤9223372036854775807)(i h:Int)(hi:0≤i∧i≤l.length)
include hl hi
theorem Yr:Con Tryz.prog 292 false [.pt 10000000 0] [.own 0 [.sl l.length (ql l),.v (.int .i64 i),.v (.int .i64 h)]] (KD l fun r=>∃k:Int,(0≤k∧k≤100)∧r=.v (.int .i64 k)):=by
 refine Con.of_aw Tryz.func292 rfl Tryz.ntmps292 (by simp) (by simp) (by simp) (W.sound ?_)
 show @W Tryz.prog 10 ⟨_⟩ ⟨fun x σ=>@qU _ _ _ ⟨_⟩ _ ⟨_⟩ x σ⟩ _ _
 simp(disch:=omega)only[go_sem]
 refine qv (qP l hl i h hi 12 (by omega)) ?_
 rintro r i1 h1 hi1 ⟨b,rfl⟩
 simp(disch:=omega)only[go_sem]
 cases b
 ·simp(disch:=omega)only[go_sem]
  refine qv (qT l hl i1 h1 hi1 6 (by omega)) ?_
  rintro r i2 h2 hi2 ⟨k,hk,rfl⟩
  simp(disch:=omega)only[go_sem]
  have:=hk.2 (by omega)
  refine qL (i2) (h2) ⟨_,by omega,rfl⟩
 ·simp(disch:=omega)only[go_sem]
  refine ye (zJ l hl i1 h1 hi1 [100,99,50,20] (by simp) (by simp)) ?_
  rintro r i2 h2 hi2 ⟨x,hx,rfl⟩
  have hx_b:0≤x∧x≤100:=by
   simp only[List.mem_cons,List.not_mem_nil,or_false]at hx
   omega
  clear hx
  simp(disch:=omega)only[go_sem]
  refine qL (i2) (h2) ⟨_,by omega,rfl⟩
theorem JB:Con Tryz.prog 264 false [.pt 10000000 0] [.own 0 [.sl l.length (ql l),.v (.int .i64 i),.v (.int .i64 h)]] (fun r hs bs=>(∃m:Nat,bl m≤1600∧aDr m r hs [])∧∃i h:Int,(0≤i∧i≤l.length)∧bs=[.own 0 [.sl l.length (ql l),.v (.int .i64 i),.v (.int .i64 h)]]):=by
 refine Con.of_aw Tryz.func264 rfl Tryz.ntmps264 (by simp) (by simp) (by simp) (W.sound ?_)
 show @W Tryz.prog 38 ⟨_⟩ ⟨fun x σ=>@qU _ _ _ ⟨_⟩ _ ⟨_⟩ x σ⟩ _ _
 simp(disch:=omega)only[go_sem]
 refine qv (Yr l hl i h hi) ?_
 rintro r i1 h1 hi1 ⟨k,hk,rfl⟩
 simp(disch:=omega)only[go_sem]
 refine qj (fun x:Nat×List Int×Int×Int=>[(0,.pt 10000000 0),(2,.pt 2 0),(3,.rf 1 0 x.2.1.length),(4,.v (.int .i64 k)),(5,.v (.int .i64 x.1))])
  (fun x=>[(1,.own 1 (qb x.2.1)),(2,.own 0 [.v (.slice none 0 0)]),(10000000,.own 0 [.sl l.length (ql l),.v (.int .i64 x.2.2.1),.v (.int .i64 x.2.2.2)])])
  (fun x=>x.1≤k.toNat∧x.2.1.length=x.1∧gd x.2.1∧(0≤x.2.2.1∧x.2.2.1≤l.length)) (fun x=>k.toNat-x.1) (0,[],i1,h1) ⟨by simp,rfl,by simp[gd],hi1⟩
  ((Le.ghost 3 1 1 (by simp(disch:=omega)only[go_sem]) (by simp(disch:=omega)only[go_sem])).trans (Le.lst [(2,40000000)] _ _ rfl (by simp(disch:=omega)only[go_sem]) (by simp(disch:=omega)only[go_sem]))) ?_
 rintro⟨j,xs,i2,h2⟩ ⟨hj,hxl,hg,hi2⟩
 dsimp only at hj hxl hg hi2 ⊢
 simp(disch:=omega)only[go_sem]
 refine qg (fun c1=>?_) (fun c1=>?_)
 ·simp(disch:=omega)only[go_sem,c1]
  refine qv (qT l hl i2 h2 hi2 4 (by omega)) ?_
  rintro r i3 h3 hi3 ⟨q,hq,rfl⟩
  simp(disch:=omega)only[go_sem]
  by_cases q0:q=0
  ·simp(disch:=omega)only[go_sem,q0]
   exact⟨by omega,qc (j+1,xs++[65535],i3,h3) [(1,260000000)] ⟨by dsimp only;omega,by simp[hxl],qD.2 ⟨hg,by simp[gd]⟩,hi3⟩ (by show k.toNat-(j+1)<k.toNat-j;omega) rfl (by simp(disch:=omega)only[go_sem,List.length_append];try omega) (by simp(disch:=omega)only[go_sem])⟩
  by_cases q1:q=1
  ·simp(disch:=omega)only[go_sem,q0,q1]
   exact⟨by omega,qc (j+1,xs++[0],i3,h3) [(1,310000000)] ⟨by dsimp only;omega,by simp[hxl],qD.2 ⟨hg,by simp[gd]⟩,hi3⟩ (by show k.toNat-(j+1)<k.toNat-j;omega) rfl (by simp(disch:=omega)only[go_sem,List.length_append];try omega) (by simp(disch:=omega)only[go_sem])⟩
  simp(disch:=omega)only[go_sem,q0,q1]
  refine qv (qT l hl i3 h3 hi3 65536 (by omega)) ?_
  rintro r i4 h4 hi4 ⟨d,hd,rfl⟩
  simp(disch:=omega)only[go_sem]
  have hd2:=hd.2 (by omega)
  exact⟨by omega,qc (j+1,xs++[d],i4,h4) [(1,210000000)] ⟨by dsimp only;omega,by simp[hxl],qD.2 ⟨hg,Qn.2 ⟨by omega,by simp[gd]⟩⟩,hi4⟩ (by show k.toNat-(j+1)<k.toNat-j;omega) rfl (by simp(disch:=omega)only[go_sem,List.length_append];try omega) (by simp(disch:=omega)only[go_sem])⟩
 ·simp(disch:=omega)only[go_sem,c1]
  refine qv (qP l hl i2 h2 hi2 4 (by omega)) ?_
  rintro r i3 h3 hi3 ⟨b,rfl⟩
  simp(disch:=omega)only[go_sem]
  cases b
  ·simp(disch:=omega)only[go_sem]
   have hv:vl xs=((vl xs).toNat:Int):=(Int.toNat_of_nonneg (qQ hg)).symm
   have hb:bl (vl xs).toNat≤1600:=by
    refine zq.2 ?_
    have h1:=Qe hg
    have h2:(65536:Int)^xs.length≤65536^100:=by
     rw[show(65536:Int)=((65536:Nat):Int) from rfl,←Int.natCast_pow,←Int.natCast_pow]
     exact Int.ofNat_le.2 (Nat.pow_le_pow_right (by omega) (by omega))
    have h3:(65536:Int)^100=((2^1600:Nat):Int):=by decide+kernel
    omega
   generalize (vl xs).toNat=m at*
   refine qz (jj true xs m (by omega) hg hv) (by simp(disch:=omega)only[go_sem]) ?_
   rintro r hs (⟨h0,rfl,rfl⟩|⟨zs,rfl,rfl⟩)
   ·refine⟨⟨by simp,by simp(disch:=omega)only[go_sem]⟩,?_⟩
    simp(disch:=omega)only[go_sem]
    refine qi [] [] [.own 0 [.sl l.length (ql l),.v (.int .i64 i3),.v (.int .i64 h3)]] [.ag [.v (.slice none 0 0)]] rfl (by simp(disch:=omega)only[go_sem]) (by simp(disch:=omega)only[go_sem]) (by simp) (by simp) ⟨⟨m,hb,.inl ⟨h0,rfl,rfl⟩⟩,_,_,hi3,rfl⟩
   ·refine⟨⟨by simp,by simp(disch:=omega)only[go_sem]⟩,?_⟩
    simp(disch:=omega)only[go_sem]
    refine qi [(0,390000000)] [.own 1 (qb (lim m++zs))] [.own 0 [.sl l.length (ql l),.v (.int .i64 i3),.v (.int .i64 h3)]] [.ag [.rf 0 0 (lim m).length]] rfl (by simp(disch:=omega)only[go_sem]) (by simp(disch:=omega)only[go_sem]) (by simp) (by simp) ⟨⟨m,hb,.inr ⟨zs,rfl,rfl⟩⟩,_,_,hi3,rfl⟩
  ·simp(disch:=omega)only[go_sem]
   refine ye (zJ l hl i3 h3 hi3 [0,1,2,9,10,65535,65536,1099511627776,4611686018427387903,4611686018427387904] (by simp) (by simp)) ?_
   rintro r i4 h4 hi4 ⟨x,hx,rfl⟩
   have hx_b:0≤x∧x≤4611686018427387904:=by
    simp only[List.mem_cons,List.not_mem_nil,or_false]at hx
    omega
   clear hx
   simp(disch:=omega)only[go_sem]
   obtain⟨n,rfl⟩:=Int.eq_ofNat_of_zero_le hx_b.1
   have hb:bl n≤1600:=Nat.le_trans (show bl n≤63 from zq.2 (by omega)) (by omega)
   refine qz (Yq true n (by omega)) (by simp(disch:=omega)only[go_sem]) ?_
   rintro r hs (⟨h0,rfl,rfl⟩|⟨zs,rfl,rfl⟩)
   ·refine⟨⟨by simp,by simp(disch:=omega)only[go_sem]⟩,?_⟩
    simp(disch:=omega)only[go_sem]
    refine qi [] [] [.own 0 [.sl l.length (ql l),.v (.int .i64 i4),.v (.int .i64 h4)]] [.ag [.v (.slice none 0 0)]] rfl (by simp(disch:=omega)only[go_sem]) (by simp(disch:=omega)only[go_sem]) (by simp) (by simp) ⟨⟨n,hb,.inl ⟨h0,rfl,rfl⟩⟩,_,_,hi4,rfl⟩
   ·refine⟨⟨by simp,by simp(disch:=omega)only[go_sem]⟩,?_⟩
    simp(disch:=omega)only[go_sem]
    refine qi [(0,370000000)] [.own 1 (qb (lim n++zs))] [.own 0 [.sl l.length (ql l),.v (.int .i64 i4),.v (.int .i64 h4)]] [.ag [.rf 0 0 (lim n).length]] rfl (by simp(disch:=omega)only[go_sem]) (by simp(disch:=omega)only[go_sem]) (by simp) (by simp) ⟨⟨n,hb,.inr ⟨zs,rfl,rfl⟩⟩,_,_,hi4,rfl⟩
end
end Go.Ab
namespace Go.Ab
open Go Go.Proofs
end Go.Ab
namespace Go.Ab
open Go Go.Proofs
end Go.Ab
namespace Go.Ab
open Go Go.Proofs
def awV(s:Bool)(m e:Int):FlV:=if m<9007199254740991 then⟨1,s,m+1,e⟩else if e<971 then⟨1,s,4503599627370496,e+1⟩else⟨2,s,0,0⟩
def toV(k:Int)(s:Bool)(m e:Int):FlV:=if k=2 then⟨1,s,9007199254740991,971⟩else if 4503599627370496<m∨(e= -1074∧1<m)then⟨k,s,m-1,e⟩else if-1074<e then⟨k,s,9007199254740991,e-1⟩else⟨0,s,0,0⟩
def nxV(k:Int)(s:Bool)(m e:Int):FlV:=if k=3∨(k=2∧s=false)then⟨k,s,m,e⟩else if k=0 then⟨1,false,1, -1074⟩else if s=true then toV k s m e else awV s m e
def ulE(k e:Int):Int:=if k=0 then-1074 else e
end Go.Ab
namespace Go.Ab
structure Adj(k:Int)(s:Bool)(m e:Int)(n:FlV)(t:Bool)(a:Nat)(E:Int):Prop where
 ha:a<2^53
 hf:2^52≤a∨E= -1074
 hE: -1074≤E∧E≤971
 ho:¬(a+1=2^53∧E=971)
 hu:E≤ulE k e
 lo:dv 1074 (xS k s) m.toNat e=dv 1074 t (if t=true then a+1 else a) E
 hi:dv 1074 (xS n.k n.s) n.m.toNat n.e=dv 1074 t (if t=true then a else a+1) E
theorem bc0:ngS 1 false=true:=rfl
theorem bcY:ngS 1 true=false:=rfl
theorem bcZ:ngS 2 false=true:=rfl
end Go.Ab
namespace Go.Ab
open Go Go.Proofs
def bcn(ok:Bool):AV→List Ob→List Ob→Prop:=fun r hs bs=>hs=[]∧bs=[]∧∃(S:Bool) (M:Nat) (E:Int) (b:Bool),dyB S (lim M) E=true∧(ok=false→b=false)∧r=.tu [.ag [.v (.bool (S)),.sl (lim (M)).length (qb (lim (M))),.v (.int .i64 (E))],.v (.bool b)]
end Go.Ab
namespace Go.Ab
def ivM(s:Bool)(m:Nat)(e mode:Int):Nat:=roM s m e 0 mode*2^(roE m e 0).toNat
end Go.Ab
namespace Go.Ab
open Go Go.Proofs
end Go.Ab
namespace Go.Ab
open Go Go.Proofs
end Go.Ab
namespace Go.Ab
open Go Go.Proofs
end Go.Ab
namespace Go.Ab
open Go Go.Proofs
def bc5(k m:Int):Nat:=if k=1 then oM m.toNat else 0
def bc6(k m e:Int):Int:=if k=1 then oE m.toNat e else 0
def bc4(k:Int)(s:Bool)(m:Int):Bool:=if k=1 then oS (s&&decide (m.toNat≠0)) m.toNat else false
end Go.Ab
namespace Go.Ab
open Go Go.Proofs
def bcm:AV→List Ob→List Ob→Prop:=fun r hs bs=>hs=[]∧bs=[]∧∃x:FlV,r=.ag x.cs
section
variable (l:List UInt8)(hl:l.length≤9223372036854775807)(i h:Int)(hi:0≤i∧i≤l.length)
include hl hi
end
end Go.Ab
namespace Go.Ab
open Go Go.Proofs
section
variable (l:List UInt8)(hl:l.length≤9223372036854775807)(i h:Int)(hi:0≤i∧i≤l.length)
include hl hi
end
end Go.Ab
namespace Go.Ab
open Go
end Go.Ab
namespace Go.Ab
open Go Go.Proofs
end Go.Ab
namespace Go.Ab
open Go Go.Proofs
end Go.Ab
namespace Go.Ab
open Go Go.Proofs
section
variable (l:List UInt8)(hl:l.length≤9223372036854775807)(i h:Int)(hi:0≤i∧i≤l.length)
include hl hi
end
theorem apv(l:List UInt8)(hl:l.length≤9223372036854775807):Con Tryz.prog 56 false [.sl l.length (ql l)] [] (fun r hs bs=>r=.pt 0 0∧bs=[]∧∃h:Int,hs=[.own 0 [.sl l.length (ql l),.v (.int .i64 0),.v (.int .i64 h)]]):=by
 refine Con.of_aw Tryz.func56 rfl Tryz.ntmps56 (by simp) (by simp) (by simp) (W.sound ?_)
 show @W Tryz.prog 32 ⟨_⟩ ⟨fun x σ=>@qU _ _ _ ⟨_⟩ _ ⟨_⟩ x σ⟩ _ _
 simp(disch:=omega)only[go_sem]
 refine qj (fun x:Nat×Int=>[(0,.sl l.length (ql l)),(3,.v (.int .i64 x.2)),(4,.v (.int .i64 x.1))]) (fun _=>[]) (fun x=>x.1≤l.length) (fun x=>l.length-x.1) (0,IntKind.i64.wrap (38282+l.length)) (by simp)
  (Le.lst [] _ _ rfl (by simp(disch:=omega)only[go_sem]) (by simp(disch:=omega)only[go_sem])) ?_
 rintro⟨i,h⟩ hi
 dsimp only at hi ⊢
 have hfin:∀l':List AV,l'=[.pt 0 0]→(fun r hs bs=>r=.pt 0 0∧bs=[]∧∃h:Int,hs=[.own 0 [.sl l.length (ql l),.v (.int .i64 0),.v (.int .i64 h)]]:AV→List Ob→List Ob→Prop) (zd l') [.own 0 [.sl l.length (ql l),.v (.int .i64 0),.v (.int .i64 h)]] []:=fun l' e=>by subst e;exact⟨rfl,rfl,h,rfl⟩
 by_cases h1:(i:Int)<l.length
 ·by_cases h2:(i:Int)<4000
  ·simp(disch:=omega)only[go_sem,h1,h2]
   generalize IntKind.i64.wrap (IntKind.i64.wrap (IntKind.i64.wrap (h*131)+IntKind.i64.wrap ((l.getD i 0).toNat:Int))+7) % 1073741824=h'
   exact⟨⟨by omega,by omega⟩,by omega,qc (i+1,h') [] (by show i+1≤_;omega) (by show l.length-(i+1)<l.length-i;omega) rfl (by simp(disch:=omega)only[go_sem];try omega) (by simp(disch:=omega)only[go_sem])⟩
  ·simp(disch:=omega)only[go_sem,h1,h2]
   refine qi [(0,330000000)] [.own 0 [.sl l.length (ql l),.v (.int .i64 0),.v (.int .i64 h)]] [] [.pt 0 0] rfl (by simp(disch:=omega)only[go_sem]) (by simp(disch:=omega)only[go_sem]) (by simp) (by simp) (hfin _ rfl)
 ·simp(disch:=omega)only[go_sem,h1]
  refine qi [(0,330000000)] [.own 0 [.sl l.length (ql l),.v (.int .i64 0),.v (.int .i64 h)]] [] [.pt 0 0] rfl (by simp(disch:=omega)only[go_sem]) (by simp(disch:=omega)only[go_sem]) (by simp) (by simp) (hfin _ rfl)
end Go.Ab
namespace Go.Ab
open Go Go.Proofs
end Go.Ab
namespace Go.Ab
open Go Go.Proofs
end Go.Ab
namespace Go.Ab
open Go Go.Proofs
end Go.Ab
namespace Go.Ab
open Go Go.Proofs
end Go.Ab
namespace Go.Ab
open Go Go.Proofs
theorem Qd{s:Bool}{m:Nat}(h:(lim m).length≤100)(hs:m=0→s=false):zD s (lim m)=true:=by
 unfold zD
 rw[aod m h,Bool.true_and]
 by_cases h0:m=0
 ·rw[hs h0];rfl
 ·have:=yY h0
  rw[decide_eq_false (show ¬(lim m).length=0 by omega),Bool.and_false];rfl
end Go.Ab
namespace Go.Ab
open Go Go.Proofs
def aXL(r:AV)(hs:List Ob)(xs:List Int):Prop:=(xs=[]∧r=.ag [.v (.slice none 0 0)]∧hs=[])∨∃zs,r=.ag [.rf 0 0 xs.length]∧hs=[.own 1 (qb (xs++zs))]
section
variable (l:List UInt8)(hl:l.length≤9223372036854775807)(i h:Int)(hi:0≤i∧i≤l.length)
include hl hi
theorem adn:Con Tryz.prog 211 false [.pt 10000000 0] [.own 0 [.sl l.length (ql l),.v (.int .i64 i),.v (.int .i64 h)]] (fun r hs bs=>(∃xs:List Int,xs.length≤200∧aXL r hs xs)∧∃i h:Int,(0≤i∧i≤l.length)∧bs=[.own 0 [.sl l.length (ql l),.v (.int .i64 i),.v (.int .i64 h)]]):=by
 refine Con.of_aw Tryz.func211 rfl Tryz.ntmps211 (by simp) (by simp) (by simp) (W.sound ?_)
 show @W Tryz.prog 43 ⟨_⟩ ⟨fun x σ=>@qU _ _ _ ⟨_⟩ _ ⟨_⟩ x σ⟩ _ _
 simp(disch:=omega)only[go_sem]
 refine yd false [10000000] (JB l hl i h hi) (by simp(disch:=omega)only[go_sem]) (by simp(disch:=omega)only[go_sem]) rfl (qM (z:=0) (cs:=[.sl l.length (ql l),.v (.int .i64 i),.v (.int .i64 h)]) (by simp(disch:=omega)only[go_sem]) (by simp(disch:=omega)only[go_sem])) (by intro n hn;exact⟨_,List.mem_cons_self ..,by rw[List.mem_singleton.1 hn];rfl⟩) ?_
 rintro r hs bs ⟨⟨m,hb,(⟨h0,rfl,rfl⟩|⟨zs,rfl,rfl⟩)⟩,i1,h1,hi1,rfl⟩-
 ·refine⟨by simp[qN],?_⟩
  simp(disch:=omega)only[go_sem]
  refine qv (qP l hl i1 h1 hi1 9 (by omega)) ?_
  rintro r i2 h2 hi2 ⟨b,rfl⟩
  simp(disch:=omega)only[go_sem]
  cases b
  ·simp(disch:=omega)only[go_sem]
   refine qi [] [] [.own 0 [.sl l.length (ql l),.v (.int .i64 i2),.v (.int .i64 h2)]] [.ag [.v (.slice none 0 0)]] rfl (by simp(disch:=omega)only[go_sem]) (by simp(disch:=omega)only[go_sem]) (by simp) (by simp) ⟨⟨[],by simp,.inl ⟨rfl,rfl,rfl⟩⟩,_,_,hi2,rfl⟩
  ·simp(disch:=omega)only[go_sem]
   refine qv (qT l hl i2 h2 hi2 4 (by omega)) ?_
   rintro r i3 h3 hi3 ⟨q,hq,rfl⟩
   simp(disch:=omega)only[go_sem]
   by_cases c0:q=0
   ·simp(disch:=omega)only[go_sem,c0]
    refine qi [(0,280000000)] [.own 1 (qb ([0]++[]))] [.own 0 [.sl l.length (ql l),.v (.int .i64 i3),.v (.int .i64 h3)]] [.ag [.rf 0 0 1]] rfl (by simp(disch:=omega)only[go_sem]) (by simp(disch:=omega)only[go_sem];rfl) (by simp) (by simp) ⟨⟨[0],by simp,.inr ⟨[],rfl,rfl⟩⟩,_,_,hi3,rfl⟩
   by_cases c1:q=1
   ·simp(disch:=omega)only[go_sem,c0,c1]
    refine qi [(0,350000000)] [.own 1 (qb ([-1]++[]))] [.own 0 [.sl l.length (ql l),.v (.int .i64 i3),.v (.int .i64 h3)]] [.ag [.rf 0 0 1]] rfl (by simp(disch:=omega)only[go_sem]) (by simp(disch:=omega)only[go_sem];rfl) (by simp) (by simp) ⟨⟨[-1],by simp,.inr ⟨[],rfl,rfl⟩⟩,_,_,hi3,rfl⟩
   by_cases c2:q=2
   ·simp(disch:=omega)only[go_sem,c0,c1,c2]
    refine qi [(0,420000000)] [.own 1 (qb ([65536]++[]))] [.own 0 [.sl l.length (ql l),.v (.int .i64 i3),.v (.int .i64 h3)]] [.ag [.rf 0 0 1]] rfl (by simp(disch:=omega)only[go_sem]) (by simp(disch:=omega)only[go_sem];rfl) (by simp) (by simp) ⟨⟨[65536],by simp,.inr ⟨[],rfl,rfl⟩⟩,_,_,hi3,rfl⟩
   simp(disch:=omega)only[go_sem,c0,c1,c2]
   refine qj (fun x:List Int×List Int=>[(2,.pt 4 0),(3,.pt 3 0)]) (fun x=>[(1,.own 1 (qb (x.1++x.2))),(3,.own 0 [.rf 1 0 x.1.length]),(4,.own 0 [.v (.slice none 0 0)]),(10000000,.own 0 [.sl l.length (ql l),.v (.int .i64 i3),.v (.int .i64 h3)])])
    (fun x=>x.1.length≤101) (fun x=>101-x.1.length) ([],[])
    (by simp) ((Le.ghostC 50000000 0 1 1 (zo:=0) (cs:=[.v (.slice none 0 0)]) (by simp(disch:=omega)only[go_sem]) rfl (by simp(disch:=omega)only[go_sem])).trans (Le.lst [(3,50000000),(4,40000000)] _ _ rfl (by simp(disch:=omega)only[go_sem]) (by simp(disch:=omega)only[go_sem,List.set_cons_zero]))) ?_
   rintro⟨xs,ys⟩ hx
   dsimp only at hx ⊢
   simp(disch:=omega)only[go_sem]
   refine qg (fun c3=>?_) (fun c3=>?_)
   ·simp(disch:=omega)only[go_sem,c3]
    exact⟨⟨by simp,by omega⟩,qc (xs++[1],[]) [(1,210000000)] (by simp;omega) (by simp;omega) rfl (by simp(disch:=omega)only[go_sem,List.length_append];try omega) (by simp(disch:=omega)only[go_sem,List.length_append,List.append_nil,List.take_left])⟩
   ·simp(disch:=omega)only[go_sem,c3]
    refine qi [(0,1)] [.own 1 (qb (xs++ys))] [.own 0 [.sl l.length (ql l),.v (.int .i64 i3),.v (.int .i64 h3)]] [.ag [.rf 0 0 xs.length]] rfl (by simp(disch:=omega)only[go_sem]) (by simp(disch:=omega)only[go_sem]) (by simp) (by simp) ⟨⟨xs,by omega,.inr ⟨ys,rfl,rfl⟩⟩,_,_,hi3,rfl⟩
 ·have hx:=qB (m:=m) (B:=1600) hb
  refine⟨by simp[qN];simp(disch:=omega)only[go_sem],?_⟩
  simp(disch:=omega)only[go_sem]
  refine qv (qP l hl i1 h1 hi1 9 (by omega)) ?_
  rintro r i2 h2 hi2 ⟨b,rfl⟩
  simp(disch:=omega)only[go_sem]
  cases b
  ·simp(disch:=omega)only[go_sem]
   refine qi [(0,70000000)] [.own 1 (qb (lim m++zs))] [.own 0 [.sl l.length (ql l),.v (.int .i64 i2),.v (.int .i64 h2)]] [.ag [.rf 0 0 (lim m).length]] rfl (by simp(disch:=omega)only[go_sem]) (by simp(disch:=omega)only[go_sem]) (by simp) (by simp) ⟨⟨lim m,by have:=qB (m:=m) (B:=1600) hb;omega,.inr ⟨zs,rfl,rfl⟩⟩,_,_,hi2,rfl⟩
  ·simp(disch:=omega)only[go_sem]
   refine qv (qT l hl i2 h2 hi2 4 (by omega)) ?_
   rintro r i3 h3 hi3 ⟨q,hq,rfl⟩
   simp(disch:=omega)only[go_sem]
   by_cases c0:q=0
   ·simp(disch:=omega)only[go_sem,c0]
    exact⟨⟨by simp,by omega⟩,qi [(0,280000000)] [.own 1 (qb (lim m++[0]++[]))] [.own 0 [.sl l.length (ql l),.v (.int .i64 i3),.v (.int .i64 h3)]] [.ag [.rf 0 0 ((lim m).length+1)]] rfl (by simp(disch:=omega)only[go_sem]) (by simp(disch:=omega)only[go_sem,List.take_left',List.append_nil]) (by simp) (by simp) ⟨⟨lim m++[0],by simp;omega,.inr ⟨[],by rw[List.length_append];rfl,rfl⟩⟩,_,_,hi3,rfl⟩⟩
   by_cases c1:q=1
   ·simp(disch:=omega)only[go_sem,c0,c1]
    exact⟨⟨by simp,by omega⟩,qi [(0,350000000)] [.own 1 (qb (lim m++[-1]++[]))] [.own 0 [.sl l.length (ql l),.v (.int .i64 i3),.v (.int .i64 h3)]] [.ag [.rf 0 0 ((lim m).length+1)]] rfl (by simp(disch:=omega)only[go_sem]) (by simp(disch:=omega)only[go_sem,List.take_left',List.append_nil]) (by simp) (by simp) ⟨⟨lim m++[-1],by simp;omega,.inr ⟨[],by rw[List.length_append];rfl,rfl⟩⟩,_,_,hi3,rfl⟩⟩
   by_cases c2:q=2
   ·simp(disch:=omega)only[go_sem,c0,c1,c2]
    exact⟨⟨by simp,by omega⟩,qi [(0,420000000)] [.own 1 (qb (lim m++[65536]++[]))] [.own 0 [.sl l.length (ql l),.v (.int .i64 i3),.v (.int .i64 h3)]] [.ag [.rf 0 0 ((lim m).length+1)]] rfl (by simp(disch:=omega)only[go_sem]) (by simp(disch:=omega)only[go_sem,List.take_left',List.append_nil]) (by simp) (by simp) ⟨⟨lim m++[65536],by simp;omega,.inr ⟨[],by rw[List.length_append];rfl,rfl⟩⟩,_,_,hi3,rfl⟩⟩
   simp(disch:=omega)only[go_sem,c0,c1,c2]
   refine qj (fun x:List Int×List Int=>[(2,.pt 4 0),(3,.pt 3 0)]) (fun x=>[(1,.own 1 (qb (x.1++x.2))),(3,.own 0 [.rf 1 0 x.1.length]),(4,.own 0 [.v (.slice none 0 0)]),(10000000,.own 0 [.sl l.length (ql l),.v (.int .i64 i3),.v (.int .i64 h3)])])
    (fun x=>x.1.length≤101) (fun x=>101-x.1.length) (lim m,zs)
    (by show(lim m).length≤101;omega) (Le.lst [(3,50000000),(4,40000000),(1,70000000)] _ _ rfl (by simp(disch:=omega)only[go_sem]) (by simp(disch:=omega)only[go_sem])) ?_
   rintro⟨xs,ys⟩ hx
   dsimp only at hx ⊢
   simp(disch:=omega)only[go_sem]
   refine qg (fun c3=>?_) (fun c3=>?_)
   ·simp(disch:=omega)only[go_sem,c3]
    exact⟨⟨by simp,by omega⟩,qc (xs++[1],[]) [(1,210000000)] (by simp;omega) (by simp;omega) rfl (by simp(disch:=omega)only[go_sem,List.length_append];try omega) (by simp(disch:=omega)only[go_sem,List.length_append,List.append_nil,List.take_left])⟩
   ·simp(disch:=omega)only[go_sem,c3]
    refine qi [(0,1)] [.own 1 (qb (xs++ys))] [.own 0 [.sl l.length (ql l),.v (.int .i64 i3),.v (.int .i64 h3)]] [.ag [.rf 0 0 xs.length]] rfl (by simp(disch:=omega)only[go_sem]) (by simp(disch:=omega)only[go_sem]) (by simp) (by simp) ⟨⟨xs,by omega,.inr ⟨ys,rfl,rfl⟩⟩,_,_,hi3,rfl⟩
omit hi hl in
theorem Con.cur{f:Nat}{args:List AV}{Q:AV→List Ob→Prop}{Q':AV→Prop}(hc:Con Tryz.prog f false args [.own 0 [.sl l.length (ql l),.v (.int .i64 i),.v (.int .i64 h)]] (fun r hs bs=>Q r hs∧∃i h:Int,(0≤i∧i≤l.length)∧bs=[.own 0 [.sl l.length (ql l),.v (.int .i64 i),.v (.int .i64 h)]]))
  (hq:∀r hs,Q r hs→(∀ob∈hs,ob.men fun _=>False)∧Q' (qE (rhp hs []) 6 r)):Con Tryz.prog f false args [.own 0 [.sl l.length (ql l),.v (.int .i64 i),.v (.int .i64 h)]] (KD l Q'):=
 (Con.frzB hc (by
  rintro r hs bs ⟨h1,i,h, -,rfl⟩
  exact⟨by simp[Ob.men,AllL,AV.All],(hq r hs h1).1⟩)).mono fun r hs bs=>by
   rintro⟨rfl,r0,hs0,⟨h1,h2⟩,rfl⟩
   exact⟨rfl,(hq _ _ h1).2,h2⟩
omit hi hl in
theorem Con.curF{f:Nat}{args:List AV}{Q Q':AV→Prop}(hc:Con Tryz.prog f false args [.own 0 [.sl l.length (ql l),.v (.int .i64 i),.v (.int .i64 h)]] (KD l Q))(hq:∀r,Q r→Q' (qE (rhp [] []) 6 r)):
  Con Tryz.prog f false args [.own 0 [.sl l.length (ql l),.v (.int .i64 i),.v (.int .i64 h)]] (KD l Q'):=
 Con.cur l i h (Q:=fun r hs=>hs=[]∧Q r) (hc.mono fun r hs bs ⟨h1,h2,h3⟩=>⟨⟨h1,h2⟩,h3⟩) fun r hs ⟨h1,h2⟩=>by subst h1;exact⟨by simp,hq r h2⟩
omit hi hl in
theorem QX{r:AV}{hs:List Ob}{xs:List Int}(h:aXL r hs xs):(∀ob∈hs,ob.men fun _=>False)∧qE (rhp hs []) 6 r=.ag [.sl xs.length (qb xs)]:=by
 rcases h with⟨rfl,rfl,rfl⟩|⟨zs,rfl,rfl⟩
 ·exact⟨by simp,rfl⟩
 ·refine⟨by intro ob ho;rw[List.mem_singleton.1 ho];exact Q1,?_⟩
  show AV.ag [qE _ 5 (.rf 0 0 xs.length)]=_
  rw[jJ ze rfl]
theorem adm:Con Tryz.prog 264 false [.pt 10000000 0] [.own 0 [.sl l.length (ql l),.v (.int .i64 i),.v (.int .i64 h)]] (KD l fun r=>∃m:Nat,bl m≤1600∧r=.ag [.sl (lim (m)).length (qb (lim (m)))]):=
 Con.cur l i h (JB l hl i h hi) fun r hs ⟨m,hb,hr⟩=>by
  have:aXL r hs (lim m):=hr.elim (fun⟨h0,h1,h2⟩=>.inl ⟨by rw[h0,qm],h1,h2⟩) .inr
  exact⟨(QX this).1,m,hb,(QX this).2⟩
theorem aiV:Con Tryz.prog 211 false [.pt 10000000 0] [.own 0 [.sl l.length (ql l),.v (.int .i64 i),.v (.int .i64 h)]] (KD l fun r=>∃xs:List Int,xs.length≤200∧r=.ag [.sl xs.length (qb xs)]):=
 Con.cur l i h (adn l hl i h hi) fun r hs ⟨xs,hb,hr⟩=>⟨(QX hr).1,xs,hb,(QX hr).2⟩
theorem Jy:Con Tryz.prog 210 false [.pt 10000000 0] [.own 0 [.sl l.length (ql l),.v (.int .i64 i),.v (.int .i64 h)]] (KD l fun r=>∃(s:Bool) (m:Nat),bl m≤1600∧r=.ag [.v (.bool (s&&decide (m≠0))),.sl (lim (m)).length (qb (lim (m)))]):=by
 refine Con.of_aw Tryz.func210 rfl Tryz.ntmps210 (by simp) (by simp) (by simp) (W.sound ?_)
 show @W Tryz.prog 8 ⟨_⟩ ⟨fun x σ=>@qU _ _ _ ⟨_⟩ _ ⟨_⟩ x σ⟩ _ _
 simp(disch:=omega)only[go_sem]
 refine qv (qP l hl i h hi 2 (by omega)) ?_
 rintro r i1 h1 hi1 ⟨b,rfl⟩
 simp(disch:=omega)only[go_sem]
 refine qv (adm l hl i1 h1 hi1) ?_
 rintro r i2 h2 hi2 ⟨m,hm,rfl⟩
 simp(disch:=omega)only[go_sem]
 have hx:=qB (m:=m) (B:=1600) hm
 refine qa (zf b m (by omega)) ?_
 simp(disch:=omega)only[go_sem]
 refine qL (i2) (h2) ⟨b,m,hm,rfl⟩
theorem aiT:Con Tryz.prog 136 false [.pt 10000000 0] [.own 0 [.sl l.length (ql l),.v (.int .i64 i),.v (.int .i64 h)]] (KD l fun r=>∃(s:Bool) (xs:List Int),xs.length≤200∧r=.ag [.v (.bool s),.sl xs.length (qb xs)]):=by
 refine Con.curF (Q:=fun r=>∃(s:Bool) (xs:List Int),xs.length≤200∧(r=.ag [.v (.bool s),.sl xs.length (qb xs)]∨(xs=[]∧r=.ag [.v (.bool s),.v (.slice none 0 0)]))) l i h ?_ (fun r ⟨s,xs,h1,h2⟩=>⟨s,xs,h1,h2.elim (fun h=>by rw[h];rfl) fun⟨h,h'⟩=>by rw[h,h'];rfl⟩)
 refine Con.of_aw Tryz.func136 rfl Tryz.ntmps136 (by simp) (by simp) (by simp) (W.sound ?_)
 show @W Tryz.prog 15 ⟨_⟩ ⟨fun x σ=>@qU _ _ _ ⟨_⟩ _ ⟨_⟩ x σ⟩ _ _
 simp(disch:=omega)only[go_sem]
 refine qv (Jy l hl i h hi) ?_
 rintro r i1 h1 hi1 ⟨s,m,hm,rfl⟩
 simp(disch:=omega)only[go_sem]
 have hx:=qB (m:=m) (B:=1600) hm
 refine qv (qP l hl i1 h1 hi1 9 (by omega)) ?_
 rintro r i2 h2 hi2 ⟨b,rfl⟩
 simp(disch:=omega)only[go_sem]
 cases b
 ·simp(disch:=omega)only[go_sem]
  refine qL (i2) (h2) ⟨_,lim m,by omega,.inl rfl⟩
 ·simp(disch:=omega)only[go_sem]
  refine qv (qP l hl i2 h2 hi2 2 (by omega)) ?_
  rintro r i3 h3 hi3 ⟨b,rfl⟩
  simp(disch:=omega)only[go_sem]
  cases b
  ·simp(disch:=omega)only[go_sem]
   refine qv (aiV l hl i3 h3 hi3) ?_
   rintro r i4 h4 hi4 ⟨xs,hxs,rfl⟩
   simp(disch:=omega)only[go_sem]
   refine qL (i4) (h4) ⟨_,xs,hxs,.inl rfl⟩
  ·simp(disch:=omega)only[go_sem]
   refine qL (i3) (h3) ⟨true,[],by simp,.inr ⟨rfl,rfl⟩⟩
omit hi hl in
theorem Yi:AV.ag [.v (.bool false),.sl 0 [],.v (.int .i64 0)]=.ag [.v (.bool (ex0).s),.sl (lim (ex0).m).length (qb (lim (ex0).m)),.v (.int .i64 (ex0).e)]:=by
 show _=AV.ag [.v (.bool false),.sl (lim 0).length (qb (lim 0)),.v (.int .i64 0)]
 rw[qm];rfl
omit hi hl in
theorem yc(x:ExV)(h:zD x.s (lim x.m)=true)(he: -12000≤x.e∧x.e≤12000):Con Tryz.prog 72 false [.ag [.v (.bool (x.s)),.sl (lim (x.m)).length (qb (lim (x.m)))],.v (.int .i64 x.e)] [] (isA (.tu [.ag [.v (.bool (x.tel).s),.sl (lim (x.tel).m).length (qb (lim (x.tel).m)),.v (.int .i64 (x.tel).e)],.v (.bool x.fit)])):=by
 have c:=K0 x.s x.m x.e h he
 rw[show j7 x.m x.e=x.fit from rfl]at c
 unfold ExV.tel
 cases hf:x.fit<;>rw[hf]at c<;>exact c
omit hi hl in
theorem aJb{m:Nat}(h:bl m≤1600):(lim m).length≤100:=jw.2 (Nat.lt_of_lt_of_eq (zq.1 h) (by decide+kernel))
theorem Qy:Con Tryz.prog 135 false [.pt 10000000 0] [.own 0 [.sl l.length (ql l),.v (.int .i64 i),.v (.int .i64 h)]] (KD l fun r=>∃x:ExV,x.ok=true∧r=.ag [.v (.bool (x).s),.sl (lim (x).m).length (qb (lim (x).m)),.v (.int .i64 (x).e)]):=by
 refine Con.curF (Q:=fun r=>∃x:ExV,x.ok=true∧qE (rhp [] []) 6 r=.ag [.v (.bool (x).s),.sl (lim (x).m).length (qb (lim (x).m)),.v (.int .i64 (x).e)]) l i h ?_ fun _ h=>h
 refine Con.of_aw Tryz.func135 rfl Tryz.ntmps135 (by simp) (by simp) (by simp) (W.sound ?_)
 show @W Tryz.prog 33 ⟨_⟩ ⟨fun x σ=>@qU _ _ _ ⟨_⟩ _ ⟨_⟩ x σ⟩ _ _
 simp(disch:=omega)only[go_sem]
 refine qv (Jy l hl i h hi) ?_
 rintro r i1 h1 hi1 ⟨s,m,hm,rfl⟩
 simp(disch:=omega)only[go_sem]
 have hx:=qB (m:=m) (B:=1600) hm
 refine qv (qP l hl i1 h1 hi1 3 (by omega)) ?_
 rintro r i2 h2 hi2 ⟨b,rfl⟩
 simp(disch:=omega)only[go_sem]
 have ww:∀(s:Bool) (m:Nat),bl m≤1600→zD (s&&decide (m≠0)) (lim m)=true:=fun s m hm=>Qd (aJb hm) (by intro h;simp[h])
 cases b
 ·simp(disch:=omega)only[go_sem]
  refine qv (qT l hl i2 h2 hi2 24 (by omega)) ?_
  rintro r i3 h3 hi3 ⟨k,hk,rfl⟩
  simp(disch:=omega)only[go_sem]
  have hk2:=hk.2 (by omega)
  refine qv (qP l hl i3 h3 hi3 6 (by omega)) ?_
  rintro r i4 h4 hi4 ⟨b,rfl⟩
  simp(disch:=omega)only[go_sem]
  cases b
  ·simp(disch:=omega)only[go_sem]
   refine qa (yc ⟨s&&decide (m≠0),m,k-12⟩ (ww s m hm) (by show-12000≤k-12∧k-12≤12000;omega)) ?_
   simp(disch:=omega)only[go_sem]
   have ok:=adU ⟨s&&decide (m≠0),m,k-12⟩
   generalize ExV.tel ⟨s&&decide (m≠0),m,k-12⟩=y at*
   cases hf:ExV.fit ⟨s&&decide (m≠0),m,k-12⟩
   ·simp(disch:=omega)only[go_sem,hf]
    refine qL (i4) (h4) ⟨ex0,KB,by simp(disch:=omega)only[go_sem];exact Yi⟩
   ·simp(disch:=omega)only[go_sem,hf]
    refine qL (i4) (h4) ⟨y,ok,by simp(disch:=omega)only[go_sem]⟩
  ·simp(disch:=omega)only[go_sem]
   refine ye (zJ l hl i4 h4 hi4 [0, -60,60, -1074,900, -2990,2990, -100] (by simp) (by simp)) ?_
   rintro r i5 h5 hi5 ⟨x,hx,rfl⟩
   have hx_b: -3000≤x∧x≤3000:=by
    simp only[List.mem_cons,List.not_mem_nil,or_false]at hx
    omega
   clear hx
   simp(disch:=omega)only[go_sem]
   refine qa (yc ⟨s&&decide (m≠0),m,x⟩ (ww s m hm) (by show-12000≤x∧x≤12000;omega)) ?_
   simp(disch:=omega)only[go_sem]
   have ok:=adU ⟨s&&decide (m≠0),m,x⟩
   generalize ExV.tel ⟨s&&decide (m≠0),m,x⟩=y at*
   cases hf:ExV.fit ⟨s&&decide (m≠0),m,x⟩
   ·simp(disch:=omega)only[go_sem,hf]
    refine qL (i5) (h5) ⟨ex0,KB,by simp(disch:=omega)only[go_sem];exact Yi⟩
   ·simp(disch:=omega)only[go_sem,hf]
    refine qL (i5) (h5) ⟨y,ok,by simp(disch:=omega)only[go_sem]⟩
 ·simp(disch:=omega)only[go_sem]
  refine qv (qT l hl i2 h2 hi2 40 (by omega)) ?_
  rintro r i3 h3 hi3 ⟨q,hq,rfl⟩
  simp(disch:=omega)only[go_sem]
  have hq2:=hq.2 (by omega)
  refine qa (Yp (q-20) (by omega)) ?_
  simp(disch:=omega)only[go_sem]
  have wq:zD (decide (q-20<0)) (lim (q-20).natAbs)=true:=Qd (by have:=qB (m:=(q-20).natAbs) (B:=6) (zq.2 (by omega));omega) (by intro h;simp;omega)
  refine qv (qT l hl i3 h3 hi3 24 (by omega)) ?_
  rintro r i4 h4 hi4 ⟨k,hk,rfl⟩
  simp(disch:=omega)only[go_sem]
  have hk2:=hk.2 (by omega)
  refine qv (qP l hl i4 h4 hi4 6 (by omega)) ?_
  rintro r i5 h5 hi5 ⟨b,rfl⟩
  simp(disch:=omega)only[go_sem]
  cases b
  ·simp(disch:=omega)only[go_sem]
   refine qa (yc ⟨decide (q-20<0),(q-20).natAbs,k-12⟩ (wq) (by show-12000≤k-12∧k-12≤12000;omega)) ?_
   simp(disch:=omega)only[go_sem]
   have ok:=adU ⟨decide (q-20<0),(q-20).natAbs,k-12⟩
   generalize ExV.tel ⟨decide (q-20<0),(q-20).natAbs,k-12⟩=y at*
   cases hf:ExV.fit ⟨decide (q-20<0),(q-20).natAbs,k-12⟩
   ·simp(disch:=omega)only[go_sem,hf]
    refine qL (i5) (h5) ⟨ex0,KB,by simp(disch:=omega)only[go_sem];exact Yi⟩
   ·simp(disch:=omega)only[go_sem,hf]
    refine qL (i5) (h5) ⟨y,ok,by simp(disch:=omega)only[go_sem]⟩
  ·simp(disch:=omega)only[go_sem]
   refine ye (zJ l hl i5 h5 hi5 [0, -60,60, -1074,900, -2990,2990, -100] (by simp) (by simp)) ?_
   rintro r i6 h6 hi6 ⟨x,hx,rfl⟩
   have hx_b: -3000≤x∧x≤3000:=by
    simp only[List.mem_cons,List.not_mem_nil,or_false]at hx
    omega
   clear hx
   simp(disch:=omega)only[go_sem]
   refine qa (yc ⟨decide (q-20<0),(q-20).natAbs,x⟩ (wq) (by show-12000≤x∧x≤12000;omega)) ?_
   simp(disch:=omega)only[go_sem]
   have ok:=adU ⟨decide (q-20<0),(q-20).natAbs,x⟩
   generalize ExV.tel ⟨decide (q-20<0),(q-20).natAbs,x⟩=y at*
   cases hf:ExV.fit ⟨decide (q-20<0),(q-20).natAbs,x⟩
   ·simp(disch:=omega)only[go_sem,hf]
    refine qL (i6) (h6) ⟨ex0,KB,by simp(disch:=omega)only[go_sem];exact Yi⟩
   ·simp(disch:=omega)only[go_sem,hf]
    refine qL (i6) (h6) ⟨y,ok,by simp(disch:=omega)only[go_sem]⟩
theorem aiR:Con Tryz.prog 57 false [.pt 10000000 0] [.own 0 [.sl l.length (ql l),.v (.int .i64 i),.v (.int .i64 h)]] (KD l fun r=>∃d:DyV,d.xs.length≤200∧r=.ag d.cs):=by
 refine Con.of_aw Tryz.func57 rfl Tryz.ntmps57 (by simp) (by simp) (by simp) (W.sound ?_)
 show @W Tryz.prog 28 ⟨_⟩ ⟨fun x σ=>@qU _ _ _ ⟨_⟩ _ ⟨_⟩ x σ⟩ _ _
 simp(disch:=omega)only[go_sem]
 refine qv (Qy l hl i h hi) ?_
 rintro r i1 h1 hi1 ⟨x,hx,rfl⟩
 simp(disch:=omega)only[go_sem]
 have lx:=(jn hx).2.2.1
 refine qv (qP l hl i1 h1 hi1 9 (by omega)) ?_
 rintro r i2 h2 hi2 ⟨b,rfl⟩
 simp(disch:=omega)only[go_sem]
 cases b
 ·simp(disch:=omega)only[go_sem]
  refine qL (i2) (h2) ⟨⟨x.s,lim x.m,x.e⟩,by show(lim x.m).length≤200;omega,rfl⟩
 ·simp(disch:=omega)only[go_sem]
  refine qv (qT l hl i2 h2 hi2 3 (by omega)) ?_
  rintro r i3 h3 hi3 ⟨q,hq,rfl⟩
  simp(disch:=omega)only[go_sem]
  by_cases c0:q=0
  ·simp(disch:=omega)only[go_sem,c0]
   refine ye (zJ l hl i3 h3 hi3 [-3001,3001,3000,4611686018427387904] (by simp) (by simp)) ?_
   rintro r i4 h4 hi4 ⟨y,hy,rfl⟩
   clear hy
   simp(disch:=omega)only[go_sem]
   refine qL (i4) (h4) ⟨⟨x.s,lim x.m,y⟩,by show(lim x.m).length≤200;omega,rfl⟩
  by_cases c1:q=1
  ·simp(disch:=omega)only[go_sem,c0,c1]
   refine qv (aiT l hl i3 h3 hi3) ?_
   rintro r i4 h4 hi4 ⟨s,xs,hxs,rfl⟩
   simp(disch:=omega)only[go_sem]
   refine qL (i4) (h4) ⟨⟨s,xs,x.e⟩,hxs,rfl⟩
  simp(disch:=omega)only[go_sem,c0,c1]
  refine qL (i3) (h3) ⟨⟨!x.s,lim x.m,x.e⟩,by show(lim x.m).length≤200;omega,rfl⟩
end
theorem aiS(x y:ExV)(hx:x.bd (-400000) 400000)(hy:y.bd (-400000) 400000):Con Tryz.prog 126 false [.ag [.v (.bool (x).s),.sl (lim (x).m).length (qb (lim (x).m)),.v (.int .i64 (x).e)],.ag [.v (.bool (y).s),.sl (lim (y).m).length (qb (lim (y).m)),.v (.int .i64 (y).e)]] [] (isA (.ag [.v (.bool ((x.plus y).can).s),.sl (lim ((x.plus y).can).m).length (qb (lim ((x.plus y).can).m)),.v (.int .i64 ((x.plus y).can).e)])):=by
 obtain⟨z1,a1,a2⟩:=hx
 obtain⟨z2,b1,b2⟩:=hy
 exact apm x.s x.m x.e y.s y.m y.e (by omega) (by omega) (by omega) (by omega) z1 z2
end Go.Ab
namespace Go.Ab
open Go Go.Proofs
theorem Qz(x y:ExV)(hx:x.ok=true)(hy:y.ok=true):Con Tryz.prog 74 true [.ag [.v (.bool (x).s),.sl (lim (x).m).length (qb (lim (x).m)),.v (.int .i64 (x).e)],.ag [.v (.bool (y).s),.sl (lim (y).m).length (qb (lim (y).m)),.v (.int .i64 (y).e)]] [] (isA (.v (.int .i64 (zg (x.val 3000) (y.val 3000))))):=by
 obtain⟨a1,a2,a3,a4,a5⟩:=jn hx
 obtain⟨b1,b2,b3,b4,b5⟩:=jn hy
 exact KM 3000 x.s x.m x.e y.s y.m y.e (by omega) (by omega) (by omega) (by omega) (by omega) (by omega) (fun h=>(a4 h).1) (fun h=>(b4 h).1)
theorem yb(v:IvV)(h:ais v):Con Tryz.prog 28 true [.ag [.v (.bool (v).lo.s),.sl (v).lo.xs.length (qb (v).lo.xs),.v (.int .i64 (v).lo.e),.v (.bool (v).hi.s),.sl (v).hi.xs.length (qb (v).hi.xs),.v (.int .i64 (v).hi.e)]] [] (isA (.v (.bool (ivB v)))):=by
 unfold ivB
 have k1:=z7 v.lo.s v.lo.xs v.lo.e (by have:=h.1;omega)
 have k2:=z7 v.hi.s v.hi.xs v.hi.e (by have:=h.2;omega)
 rw[show dyB v.lo.s v.lo.xs v.lo.e=v.lo.ok from rfl]at k1
 rw[show dyB v.hi.s v.hi.xs v.hi.e=v.hi.ok from rfl]at k2
 cases h1:v.lo.ok
 ·rw[h1]at k1
  refine Con.of_aw Tryz.func28 rfl Tryz.ntmps28 (by simp) (by simp) (by simp) (W.sound ?_)
  show @W Tryz.prog 19 ⟨_⟩ ⟨fun x σ=>@qU _ _ _ ⟨_⟩ _ ⟨_⟩ x σ⟩ _ _
  simp(disch:=omega)only[go_sem]
  refine qe (k1) ?_
  simp(disch:=omega)only[go_sem]
  exact qy
 cases h2:v.hi.ok
 ·rw[h1]at k1
  rw[h2]at k2
  refine Con.of_aw Tryz.func28 rfl Tryz.ntmps28 (by simp) (by simp) (by simp) (W.sound ?_)
  show @W Tryz.prog 19 ⟨_⟩ ⟨fun x σ=>@qU _ _ _ ⟨_⟩ _ ⟨_⟩ x σ⟩ _ _
  simp(disch:=omega)only[go_sem]
  refine qe (k1) ?_
  simp(disch:=omega)only[go_sem]
  refine qe (k2) ?_
  simp(disch:=omega)only[go_sem]
  exact qy
 ·rw[h1]at k1
  rw[h2]at k2
  obtain⟨lo,hi⟩:=v
  dsimp only at h1 h2 k1 k2 ⊢
  obtain⟨e1,o1⟩:=aiB h1
  obtain⟨e2,o2⟩:=aiB h2
  generalize lo.ex=x at*
  generalize hi.ex=y at*
  subst e1 e2
  unfold ExV.dyv at*
  refine Con.of_aw Tryz.func28 rfl Tryz.ntmps28 (by simp) (by simp) (by simp) (W.sound ?_)
  show @W Tryz.prog 19 ⟨_⟩ ⟨fun x σ=>@qU _ _ _ ⟨_⟩ _ ⟨_⟩ x σ⟩ _ _
  simp(disch:=omega)only[go_sem]
  refine qe (k1) ?_
  simp(disch:=omega)only[go_sem]
  refine qe (k2) ?_
  simp(disch:=omega)only[go_sem]
  refine qe (Qz x y o1 o2) ?_
  simp(disch:=omega)only[go_sem]
  refine qx (by simp(disch:=omega)only[go_sem]) (by simp(disch:=omega)only[go_sem]) ⟨?_,rfl,rfl⟩
  show AV.v (.bool _)=AV.v (.bool (true&&(true&&decide (ExV.val 3000 x≤ExV.val 3000 y))))
  rw[Bool.true_and,Bool.true_and]
  congr 2
  exact decide_eq_decide.2 (zL _ _).1
theorem yr(s:SpV)(h:s.ok=true):Con Tryz.prog 28 true [.ag [.v (.bool (s).lo.s),.sl (lim (s).lo.m).length (qb (lim (s).lo.m)),.v (.int .i64 (s).lo.e),.v (.bool (s).hi.s),.sl (lim (s).hi.m).length (qb (lim (s).hi.m)),.v (.int .i64 (s).hi.e)]] [] (isA (.v (.bool true))):=by
 have c:=yb s.iv (j2 h)
 rw[Kt,h]at c
 exact c
theorem KL(x:ExV)(h:x.ok=true):Con Tryz.prog 285 false [.ag [.v (.bool (x).s),.sl (lim (x).m).length (qb (lim (x).m)),.v (.int .i64 (x).e)]] [] (isA (.ag [.v (.bool (x).s),.sl (lim (x).m).length (qb (lim (x).m)),.v (.int .i64 (x).e)])):=by
 refine Con.frzA ?_
 obtain⟨a1,a2,a3,a4,a5⟩:=jn h
 have cm:=zf x.s x.m (by omega)
 rw[show(x.s&&decide (x.m≠0))=x.s by
  by_cases h0:x.m=0
  ·rw[(a4 h0).1];rfl
  ·simp[h0]]at cm
 refine Con.of_w (rs:=[.cell 2 29]) Tryz.func285 rfl Tryz.ntmps285 rfl ?_
 simp(disch:=omega)only[go_sem]
 refine qp rfl [⟨0,[],[]⟩,⟨1,[],[]⟩,⟨2,[],[]⟩,⟨3,[2],[]⟩,⟨4,[2],[]⟩,⟨5,[2],[]⟩,⟨7,[2,5],[]⟩,⟨8,[2,5],[]⟩,⟨6,[8],[]⟩,⟨9,[],[]⟩,⟨10,[],[]⟩] (by kernel_rfl) ?_
 simp(disch:=omega)only[go_sem]
 refine qa (cm) ?_
 simp(disch:=omega)only[go_sem]
 exact qk
theorem JE(x:ExV)(h:x.ok=true):Con Tryz.prog 59 true [.ag [.v (.bool (x).s),.sl (lim (x).m).length (qb (lim (x).m)),.v (.int .i64 (x).e)]] [] (isA (.v (.bool true))):=by
 have k:=z7 x.s (lim x.m) x.e (by have:=(jn h).2.2.1;omega)
 rw[show dyB x.s (lim x.m) x.e=true from h]at k
 exact k
def jc(x y:ExV):ExV:=if x.val 3000≤y.val 3000 then x else y
def jb(x y:ExV):ExV:=if y.val 3000≤x.val 3000 then x else y
theorem yq(x y:ExV)(hx:x.ok=true)(hy:y.ok=true):Con Tryz.prog 241 false [.ag [.v (.bool (x).s),.sl (lim (x).m).length (qb (lim (x).m)),.v (.int .i64 (x).e)],.ag [.v (.bool (y).s),.sl (lim (y).m).length (qb (lim (y).m)),.v (.int .i64 (y).e)]] [] (isA (.ag [.v (.bool (jc x y).s),.sl (lim (jc x y).m).length (qb (lim (jc x y).m)),.v (.int .i64 (jc x y).e)])):=by
 refine Con.frzA ?_
 have e1:decide (zg (x.val 3000) (y.val 3000)≤0)=decide (x.val 3000≤y.val 3000):=decide_eq_decide.2 (zL _ _).1
 unfold jc
 refine Con.of_w (rs:=[.cell 4 29]) Tryz.func241 rfl Tryz.ntmps241 rfl ?_
 simp(disch:=omega)only[go_sem]
 refine qe (Qz x y hx hy) ?_
 simp(disch:=omega)only[go_sem]
 by_cases h:x.val 3000≤y.val 3000
 ·simp(disch:=omega)only[go_sem,e1,decide_eq_true h]
  rw[if_pos h]
  exact qk
 ·simp(disch:=omega)only[go_sem,e1,decide_eq_false h]
  rw[if_neg h]
  exact qk
theorem yp(x y:ExV)(hx:x.ok=true)(hy:y.ok=true):Con Tryz.prog 242 false [.ag [.v (.bool (x).s),.sl (lim (x).m).length (qb (lim (x).m)),.v (.int .i64 (x).e)],.ag [.v (.bool (y).s),.sl (lim (y).m).length (qb (lim (y).m)),.v (.int .i64 (y).e)]] [] (isA (.ag [.v (.bool (jb x y).s),.sl (lim (jb x y).m).length (qb (lim (jb x y).m)),.v (.int .i64 (jb x y).e)])):=by
 refine Con.frzA ?_
 have e1:decide (0≤zg (x.val 3000) (y.val 3000))=decide (y.val 3000≤x.val 3000):=decide_eq_decide.2 (by unfold zg;split<;>(try split)<;>omega)
 unfold jb
 refine Con.of_w (rs:=[.cell 4 29]) Tryz.func242 rfl Tryz.ntmps242 rfl ?_
 simp(disch:=omega)only[go_sem]
 refine qe (Qz x y hx hy) ?_
 simp(disch:=omega)only[go_sem]
 by_cases h:y.val 3000≤x.val 3000
 ·simp(disch:=omega)only[go_sem,e1,decide_eq_true h]
  rw[if_pos h]
  exact qk
 ·simp(disch:=omega)only[go_sem,e1,decide_eq_false h]
  rw[if_neg h]
  exact qk
theorem aon{x y:ExV}(hx:x.ok=true)(hy:y.ok=true):(jc x y).ok=true∧(jb x y).ok=true∧(jc x y).val 3000≤(jb x y).val 3000:=by
 unfold jc jb
 by_cases h:x.val 3000≤y.val 3000
 ·rw[if_pos h]
  by_cases h2:y.val 3000≤x.val 3000
  ·rw[if_pos h2];exact⟨hx,hx,Int.le_refl _⟩
  ·rw[if_neg h2];exact⟨hx,hy,h⟩
 ·rw[if_neg h,if_pos (by omega)];exact⟨hy,hx,by omega⟩
theorem aI6{x y:ExV}(hx:x.ok=true)(hy:y.ok=true):SpV.ok ⟨jc x y,jb x y⟩=true:=by
 obtain⟨h1,h2,h3⟩:=aon hx hy
 unfold SpV.ok
 dsimp only
 rw[h1,h2,decide_eq_true h3];rfl
theorem aiP(s:SpV)(h1:s.lo.ok=true)(h2:s.hi.ok=true):Con Tryz.prog 240 false [.ag [.v (.bool (s).lo.s),.sl (lim (s).lo.m).length (qb (lim (s).lo.m)),.v (.int .i64 (s).lo.e),.v (.bool (s).hi.s),.sl (lim (s).hi.m).length (qb (lim (s).hi.m)),.v (.int .i64 (s).hi.e)]] [] (isA (.tu [.ag [.v (.bool (s).lo.s),.sl (lim (s).lo.m).length (qb (lim (s).lo.m)),.v (.int .i64 (s).lo.e),.v (.bool (s).hi.s),.sl (lim (s).hi.m).length (qb (lim (s).hi.m)),.v (.int .i64 (s).hi.e)],.v (.bool true)])):=by
 refine Con.frzA ?_
 refine Con.of_w (rs:=[.cell 2 50,.tmp 3]) Tryz.func240 rfl Tryz.ntmps240 rfl ?_
 simp(disch:=omega)only[go_sem]
 refine qe (JE s.lo h1) ?_
 simp(disch:=omega)only[go_sem]
 refine qe (JE s.hi h2) ?_
 simp(disch:=omega)only[go_sem]
 refine qp rfl [⟨0,[],[]⟩,⟨1,[],[]⟩,⟨3,[1],[]⟩,⟨4,[1],[]⟩,⟨2,[4],[]⟩,⟨5,[],[]⟩,⟨6,[],[]⟩,⟨7,[],[]⟩,⟨8,[],[]⟩] (by kernel_rfl) ?_
 simp(disch:=omega)only[go_sem]
 refine qa (KL s.lo h1) ?_
 simp(disch:=omega)only[go_sem]
 refine qa (KL s.hi h2) ?_
 simp(disch:=omega)only[go_sem]
 exact qk
theorem ady(s t:SpV)(hs:s.ok=true)(ht:t.ok=true):Con Tryz.prog 172 false [.ag [.v (.bool (s).lo.s),.sl (lim (s).lo.m).length (qb (lim (s).lo.m)),.v (.int .i64 (s).lo.e),.v (.bool (s).hi.s),.sl (lim (s).hi.m).length (qb (lim (s).hi.m)),.v (.int .i64 (s).hi.e)],.ag [.v (.bool (t).lo.s),.sl (lim (t).lo.m).length (qb (lim (t).lo.m)),.v (.int .i64 (t).lo.e),.v (.bool (t).hi.s),.sl (lim (t).hi.m).length (qb (lim (t).hi.m)),.v (.int .i64 (t).hi.e)]] [] (isA (.tu [.ag [.v (.bool (SpV.mk (jc s.lo t.lo) (jb s.hi t.hi)).lo.s),.sl (lim (SpV.mk (jc s.lo t.lo) (jb s.hi t.hi)).lo.m).length (qb (lim (SpV.mk (jc s.lo t.lo) (jb s.hi t.hi)).lo.m)),.v (.int .i64 (SpV.mk (jc s.lo t.lo) (jb s.hi t.hi)).lo.e),.v (.bool (SpV.mk (jc s.lo t.lo) (jb s.hi t.hi)).hi.s),.sl (lim (SpV.mk (jc s.lo t.lo) (jb s.hi t.hi)).hi.m).length (qb (lim (SpV.mk (jc s.lo t.lo) (jb s.hi t.hi)).hi.m)),.v (.int .i64 (SpV.mk (jc s.lo t.lo) (jb s.hi t.hi)).hi.e)],.v (.bool true)])):=by
 refine Con.frzA ?_
 obtain⟨a1,a2,a3⟩:=zY hs
 obtain⟨b1,b2,b3⟩:=zY ht
 have o1:=(aon a1 b1).1
 have o2:=(aon a2 b2).2.1
 have c1:=yq s.lo t.lo a1 b1
 have c2:=yp s.hi t.hi a2 b2
 generalize jc s.lo t.lo=x at*
 generalize jb s.hi t.hi=y at*
 refine Con.of_w (rs:=[.cell 4 50,.tmp 5]) Tryz.func172 rfl Tryz.ntmps172 rfl ?_
 simp(disch:=omega)only[go_sem]
 refine qe (yr s hs) ?_
 simp(disch:=omega)only[go_sem]
 refine qe (yr t ht) ?_
 simp(disch:=omega)only[go_sem]
 refine qp rfl [⟨0,[],[]⟩,⟨1,[],[]⟩,⟨2,[1],[]⟩,⟨3,[1],[]⟩,⟨5,[1,3],[]⟩,⟨6,[1,3],[]⟩,⟨7,[1,3,6],[]⟩,⟨8,[1,3,6],[]⟩,⟨4,[6,8],[]⟩,⟨9,[],[]⟩,⟨10,[],[]⟩,⟨11,[],[]⟩,⟨12,[],[]⟩,⟨13,[],[]⟩,⟨14,[],[]⟩,⟨15,[],[]⟩] (by kernel_rfl) ?_
 simp(disch:=omega)only[go_sem]
 refine qa (c1) ?_
 simp(disch:=omega)only[go_sem]
 refine qa (c2) ?_
 simp(disch:=omega)only[go_sem]
 refine qa (aiP ⟨x,y⟩ o1 o2) ?_
 simp(disch:=omega)only[go_sem]
 exact qk
theorem aJh{s t:SpV}(hs:s.ok=true)(ht:t.ok=true):SpV.ok ⟨jc s.lo t.lo,jb s.hi t.hi⟩=true:=by
 obtain⟨a1,a2,a3⟩:=zY hs
 obtain⟨b1,b2,b3⟩:=zY ht
 have h3:(jc s.lo t.lo).val 3000≤(jb s.hi t.hi).val 3000:=by
  unfold jc jb
  split<;>split<;>omega
 unfold SpV.ok
 dsimp only
 rw[(aon a1 b1).1,(aon a2 b2).2.1,decide_eq_true h3];rfl
theorem aKN(x:ExV):x.can.ok=x.fit:=y7 x.s x.m x.e
section
variable (l:List UInt8)(hl:l.length≤9223372036854775807)(i h:Int)(hi:0≤i∧i≤l.length)
include hl hi
theorem Jx:Con Tryz.prog 173 false [.pt 10000000 0] [.own 0 [.sl l.length (ql l),.v (.int .i64 i),.v (.int .i64 h)]] (KD l fun r=>∃s:SpV,s.ok=true∧r=.ag [.v (.bool (s).lo.s),.sl (lim (s).lo.m).length (qb (lim (s).lo.m)),.v (.int .i64 (s).lo.e),.v (.bool (s).hi.s),.sl (lim (s).hi.m).length (qb (lim (s).hi.m)),.v (.int .i64 (s).hi.e)]):=by
 refine Con.of_aw Tryz.func173 rfl Tryz.ntmps173 (by simp) (by simp) (by simp) (W.sound ?_)
 show @W Tryz.prog 29 ⟨_⟩ ⟨fun x σ=>@qU _ _ _ ⟨_⟩ _ ⟨_⟩ x σ⟩ _ _
 simp(disch:=omega)only[go_sem]
 refine qv (Qy l hl i h hi) ?_
 rintro r i1 h1 hi1 ⟨x,hx,rfl⟩
 simp(disch:=omega)only[go_sem]
 refine qv (Qy l hl i1 h1 hi1) ?_
 rintro r i2 h2 hi2 ⟨y,hy,rfl⟩
 simp(disch:=omega)only[go_sem]
 refine qv (qP l hl i2 h2 hi2 3 (by omega)) ?_
 rintro r i3 h3 hi3 ⟨b,rfl⟩
 simp(disch:=omega)only[go_sem]
 cases b
 ·simp(disch:=omega)only[go_sem]
  refine qp rfl [⟨0,[],[]⟩,⟨1,[0],[]⟩,⟨3,[0,1],[]⟩,⟨4,[0,1,3],[]⟩,⟨2,[3,4],[]⟩,⟨5,[],[]⟩,⟨6,[],[]⟩,⟨7,[],[]⟩] (by kernel_rfl) ?_
  simp(disch:=omega)only[go_sem]
  refine qa (yq x y hx hy) ?_
  simp(disch:=omega)only[go_sem]
  refine qa (yp x y hx hy) ?_
  simp(disch:=omega)only[go_sem]
  have ok:=aI6 hx hy
  generalize jc x y=a at*
  generalize jb x y=b at*
  refine qL (i3) (h3) ⟨⟨a,b⟩,ok,rfl⟩
 ·simp(disch:=omega)only[go_sem]
  refine qp rfl [⟨0,[],[]⟩,⟨2,[0],[]⟩,⟨1,[0],[]⟩,⟨3,[0],[]⟩,⟨4,[0],[]⟩,⟨5,[0],[]⟩,⟨6,[],[]⟩,⟨7,[],[]⟩] (by kernel_rfl) ?_
  simp(disch:=omega)only[go_sem]
  have c3:=Yp 1 (by omega)
  rw[show(1:Int).natAbs=1 from rfl,show decide ((1:Int)<0)=false from rfl]at c3
  refine qa (c3) ?_
  simp(disch:=omega)only[go_sem]
  refine qv (qT l hl i3 h3 hi3 9 (by omega)) ?_
  rintro r i4 h4 hi4 ⟨k,hk,rfl⟩
  simp(disch:=omega)only[go_sem]
  have hk2:=hk.2 (by omega)
  have bx:=Qj hx
  have b1:ExV.bd (-3000) 4600 ⟨false,1,k-6⟩:=⟨fun _=>rfl,by show-3000≤k-6;omega,by show(bl 1:Int)+(k-6)≤4600;have:bl 1≤1:=zq.2 (by decide);omega⟩
  refine qa (aiS x ⟨false,1,k-6⟩ (bx.mono (by omega) (by omega)) (b1.mono (by omega) (by omega))) ?_
  simp(disch:=omega)only[go_sem]
  have bp:=ExV.plus_bd bx b1
  have hf:=aKN (x.plus ⟨false,1,k-6⟩)
  have lp:(lim (x.plus ⟨false,1,k-6⟩).can.m).length≤1000:=by
   have h3:=qB (m:=(x.plus ⟨false,1,k-6⟩).m) (B:=8000) (by have:=bp.2.1;have:=bp.2.2;omega)
   have h4:(lim (x.plus ⟨false,1,k-6⟩).can.m).length≤(lim (x.plus ⟨false,1,k-6⟩).m).length:=yn (aID _)
   omega
  generalize (x.plus ⟨false,1,k-6⟩).can=z at*
  have kz:=z7 z.s (lim z.m) z.e (by omega)
  rw[show dyB z.s (lim z.m) z.e=z.ok from rfl]at kz
  refine qe (kz) ?_
  simp(disch:=omega)only[go_sem]
  cases hz:z.ok
  ·simp(disch:=omega)only[go_sem,hz]
   refine qp rfl [⟨0,[],[]⟩,⟨1,[0],[]⟩,⟨3,[0,1],[]⟩,⟨4,[0,1,3],[]⟩,⟨2,[3,4],[]⟩,⟨5,[],[]⟩,⟨6,[],[]⟩,⟨7,[],[]⟩] (by kernel_rfl) ?_
   simp(disch:=omega)only[go_sem]
   refine qa (yq x x hx hx) ?_
   simp(disch:=omega)only[go_sem]
   refine qa (yp x x hx hx) ?_
   simp(disch:=omega)only[go_sem]
   have ok:=aI6 hx hx
   generalize jc x x=a at*
   generalize jb x x=b at*
   refine qL (i4) (h4) ⟨⟨a,b⟩,ok,rfl⟩
  ·simp(disch:=omega)only[go_sem,hz]
   refine qp rfl [⟨0,[],[]⟩,⟨1,[0],[]⟩,⟨3,[0,1],[]⟩,⟨4,[0,1,3],[]⟩,⟨2,[3,4],[]⟩,⟨5,[],[]⟩,⟨6,[],[]⟩,⟨7,[],[]⟩] (by kernel_rfl) ?_
   simp(disch:=omega)only[go_sem]
   refine qa (yq x z hx hz) ?_
   simp(disch:=omega)only[go_sem]
   refine qa (yp x z hx hz) ?_
   simp(disch:=omega)only[go_sem]
   have ok:=aI6 hx hz
   generalize jc x z=a at*
   generalize jb x z=b at*
   refine qL (i4) (h4) ⟨⟨a,b⟩,ok,rfl⟩
theorem Qw:Con Tryz.prog 171 false [.pt 10000000 0] [.own 0 [.sl l.length (ql l),.v (.int .i64 i),.v (.int .i64 h)]] (KD l fun r=>∃v:IvV,ais v∧r=.ag v.cs):=by
 refine Con.of_aw Tryz.func171 rfl Tryz.ntmps171 (by simp) (by simp) (by simp) (W.sound ?_)
 show @W Tryz.prog 19 ⟨_⟩ ⟨fun x σ=>@qU _ _ _ ⟨_⟩ _ ⟨_⟩ x σ⟩ _ _
 simp(disch:=omega)only[go_sem]
 refine qv (Jx l hl i h hi) ?_
 rintro r i1 h1 hi1 ⟨s,hs,rfl⟩
 simp(disch:=omega)only[go_sem]
 have l6:=j2 hs
 refine qv (qP l hl i1 h1 hi1 10 (by omega)) ?_
 rintro r i2 h2 hi2 ⟨b,rfl⟩
 simp(disch:=omega)only[go_sem]
 cases b
 ·simp(disch:=omega)only[go_sem]
  refine qL (i2) (h2) ⟨s.iv,l6,rfl⟩
 ·simp(disch:=omega)only[go_sem]
  refine qv (qP l hl i2 h2 hi2 2 (by omega)) ?_
  rintro r i3 h3 hi3 ⟨b,rfl⟩
  simp(disch:=omega)only[go_sem]
  cases b
  ·simp(disch:=omega)only[go_sem]
   refine qv (aiR l hl i3 h3 hi3) ?_
   rintro r i4 h4 hi4 ⟨⟨S,xs,E⟩,hxs,rfl⟩
   simp(disch:=omega)only[go_sem]
   dsimp only at hxs
   unfold DyV.cs
   simp(disch:=omega)only[go_sem]
   refine qL (i4) (h4) ⟨⟨⟨S,xs,E⟩,s.hi.dyv⟩,⟨by show xs.length≤1000;omega,l6.2⟩,rfl⟩
  ·simp(disch:=omega)only[go_sem]
   refine qL (i3) (h3) ⟨⟨s.hi.dyv,s.lo.dyv⟩,⟨l6.2,l6.1⟩,rfl⟩
end
theorem QQ(l:List UInt8)(hl:l.length≤9223372036854775807):Con Tryz.prog 87 false [.sl l.length (ql l)] [] (fun r hs bs=>hs=[]∧bs=[]∧∃a b:IvV,ais a∧ais b∧r=.tu [.ag a.cs,.ag b.cs]):=by
 refine Con.of_aw Tryz.func87 rfl Tryz.ntmps87 (by simp) (by simp) (by simp) (W.sound ?_)
 show @W Tryz.prog 31 ⟨_⟩ ⟨fun x σ=>@qU _ _ _ ⟨_⟩ _ ⟨_⟩ x σ⟩ _ _
 simp(disch:=omega)only[go_sem]
 refine q8 (apv l hl) (by simp(disch:=omega)only[go_sem]) ?_
 rintro r hs ⟨rfl, -,⟨h,rfl⟩⟩
 refine⟨by simp(disch:=omega)only[go_sem],?_⟩
 simp(disch:=omega)only[go_sem]
 refine qv (Qw l hl 0 h (by omega)) ?_
 rintro r i1 h1 hi1 ⟨⟨⟨S,xs,E⟩,⟨S',xs',E'⟩⟩,la,rfl⟩
 simp(disch:=omega)only[go_sem]
 unfold IvV.cs DyV.cs
 simp(disch:=omega)only[go_sem]
 refine qv (qP l hl i1 h1 hi1 3 (by omega)) ?_
 rintro r i2 h2 hi2 ⟨b,rfl⟩
 simp(disch:=omega)only[go_sem]
 cases b
 ·simp(disch:=omega)only[go_sem]
  refine qp rfl [⟨0,[],[]⟩,⟨1,[0],[]⟩,⟨2,[0],[]⟩,⟨3,[],[]⟩,⟨4,[],[]⟩] (by kernel_rfl) ?_
  simp(disch:=omega)only[go_sem]
  refine qv (Qw l hl i2 h2 hi2) ?_
  rintro r i3 h3 hi3 ⟨b,lb,rfl⟩
  simp(disch:=omega)only[go_sem]
  unfold IvV.cs DyV.cs
  simp(disch:=omega)only[go_sem]
  exact qK (by simp(disch:=omega)only[go_sem]) ⟨rfl,rfl,_,b,la,lb,rfl⟩
 ·simp(disch:=omega)only[go_sem]
  refine qe (yb ⟨⟨S,xs,E⟩,⟨S',xs',E'⟩⟩ la) ?_
  simp(disch:=omega)only[go_sem]
  cases ha:ivB ⟨⟨S,xs,E⟩,⟨S',xs',E'⟩⟩
  ·simp(disch:=omega)only[go_sem,ha]
   refine qp rfl [⟨0,[],[]⟩,⟨1,[0],[]⟩,⟨2,[0],[]⟩,⟨3,[],[]⟩,⟨4,[],[]⟩] (by kernel_rfl) ?_
   simp(disch:=omega)only[go_sem]
   refine qv (Qw l hl i2 h2 hi2) ?_
   rintro r i3 h3 hi3 ⟨b,lb,rfl⟩
   simp(disch:=omega)only[go_sem]
   unfold IvV.cs DyV.cs
   simp(disch:=omega)only[go_sem]
   exact qK (by simp(disch:=omega)only[go_sem]) ⟨rfl,rfl,_,b,la,lb,rfl⟩
  ·simp(disch:=omega)only[go_sem,ha]
   obtain⟨s,hse,hs⟩:=aJl ha
   unfold SpV.iv ExV.dyv at hse
   injection hse with g1 g2
   injection g1 with a1 a2 a3
   injection g2 with b1 b2 b3
   subst a1 a2 a3 b1 b2 b3
   refine qp rfl [⟨0,[],[]⟩,⟨1,[0],[]⟩,⟨7,[0],[]⟩,⟨2,[0],[80000000]⟩,⟨3,[],[80000000]⟩,⟨4,[],[80000000]⟩,⟨5,[],[80000000]⟩,⟨6,[],[80000000]⟩,⟨8,[],[]⟩,⟨9,[],[]⟩] (by kernel_rfl) ?_
   simp(disch:=omega)only[go_sem]
   refine qv (Jx l hl i2 h2 hi2) ?_
   rintro r i3 h3 hi3 ⟨t,ht,rfl⟩
   simp(disch:=omega)only[go_sem]
   refine qa (ady s t hs ht) ?_
   simp(disch:=omega)only[go_sem]
   have ok:=j2 (aJh hs ht)
   unfold SpV.iv at ok
   dsimp only at ok
   generalize jc s.lo t.lo=x at*
   generalize jb s.hi t.hi=y at*
   refine qp rfl [⟨0,[],[]⟩,⟨1,[0],[]⟩,⟨2,[1],[]⟩,⟨3,[],[]⟩] (by kernel_rfl) ?_
   simp(disch:=omega)only[go_sem]
   exact qK (by simp(disch:=omega)only[go_sem]) ⟨rfl,rfl,s.iv,⟨x.dyv,y.dyv⟩,j2 hs,ok,rfl⟩
theorem Ja(l:List UInt8)(hl:l.length≤9223372036854775807):Con Tryz.prog 25 false [.sl l.length (ql l)] [] (fun r hs bs=>hs=[]∧bs=[]∧∃a b:IvV,ais a∧ais b∧r=.tu [.ag a.cs,.ag b.cs]):=by
 refine Con.of_aw Tryz.func25 rfl Tryz.ntmps25 (by simp) (by simp) (by simp) (W.sound ?_)
 show @W Tryz.prog 8 ⟨_⟩ ⟨fun x σ=>@qU _ _ _ ⟨_⟩ _ ⟨_⟩ x σ⟩ _ _
 simp(disch:=omega)only[go_sem]
 refine q8 (QQ l hl) (by simp(disch:=omega)only[go_sem]) ?_
 rintro r hs ⟨rfl, -,⟨a,b,la,lb,rfl⟩⟩
 refine⟨by simp(disch:=omega)only[go_sem],?_⟩
 unfold IvV.cs DyV.cs
 simp(disch:=omega)only[go_sem]
 exact qK (by simp(disch:=omega)only[go_sem]) ⟨rfl,rfl,a,b,la,lb,rfl⟩
end Go.Ab
namespace Go.Ab
open Go Go.Proofs
/-! ### Rounding down and up-/
def rnF(s:Bool)(a b:Nat)(low mode:Int):FlV:=⟨flK s mode (rq s a b mode) low,s,aZM s mode (rq s a b mode) low,aZN s mode (rq s a b mode) low⟩
def upQ(a b:Nat):Nat:=if a % b=0 then a/b else a/b+1
def isN(F:FlV):Bool:=decide (F.k=0)||decide (F.k=1)
theorem aHR(s:Bool)(a b:Nat):rq s a b 3=if s=true then upQ a b else a/b:=by
 unfold rq upQ rup
 by_cases h:a % b=0
 ·simp[h]
 ·cases s<;>simp[h]
theorem aXK(s:Bool)(a b:Nat):rq s a b 2=if s=true then a/b else upQ a b:=by
 unfold rq upQ rup
 by_cases h:a % b=0
 ·simp[h]
 ·cases s<;>simp[h]
def rqB(s:Bool)(a b:Nat)(low mode:Int):Prop:=rq s a b mode≠0∧1024<(bl (rq s a b mode):Int)+low
end Go.Ab
namespace Go.Ab
def stk(A B:Nat):Nat:=2*(A/B)+(if A % B=0 then 0 else 1)
end Go.Ab
namespace Go.Ab
def rtB(a:Nat):Nat→Nat
 |0=>0
 |n+1=>if(n+1)*(n+1)≤a then n+1 else rtB a n
def rt(a:Nat):Nat:=rtB a a
end Go.Ab
namespace Go.Ab
open Go Go.Proofs
end Go.Ab
namespace Go.Ab
open Go Go.Proofs
/-! ### A root,rounded-/
def stR(A S:Nat):Nat:=rt (A/S)*4+(if rt (A/S)*rt (A/S)*S=A then 0 else if A*4<(2*rt (A/S)+1)*(2*rt (A/S)+1)*S then 1 else if A*4=(2*rt (A/S)+1)*(2*rt (A/S)+1)*S then 2 else 3)
end Go.Ab
namespace Go.Ab
open Go Go.Proofs
def sqT(m:Nat)(e:Int):Int:=((bl m:Int)+e+1)/2
def sqL(m:Nat)(e:Int):Int:=ZD (sqT m e)
def sqA(m:Nat)(e low:Int):Nat:=stR (ovA m (e-2*low)) (2^(-(e-2*low)).toNat)
def sqV(k:Int)(s:Bool)(m e mode:Int):FlV:=
 if k=3∨k=0 then⟨k,s,m,e⟩else if s=true then⟨3,false,0,0⟩else if k=2 then⟨k,s,m,e⟩else
  ⟨flK false mode (rq false (sqA m.toNat e (sqL m.toNat e)) 4 mode) (sqL m.toNat e),false,aZM false mode (rq false (sqA m.toNat e (sqL m.toNat e)) 4 mode) (sqL m.toNat e),aZN false mode (rq false (sqA m.toNat e (sqL m.toNat e)) 4 mode) (sqL m.toNat e)⟩
def sqG(k:Int)(s:Bool)(m e mode:Int):Int:=
 if k=3∨k=0 then 0 else if s=true then 16 else if k=2 then 0 else
  bal (sqT m.toNat e) (decide (sqA m.toNat e (sqL m.toNat e) % 4=0)) (rq false (sqA m.toNat e (sqL m.toNat e)) 4 mode) (sqL m.toNat e)
end Go.Ab
namespace Go.Ab
open Go Go.Proofs
def rtE(x:ExV)(low md:Int):ExV:=⟨false,rq false (sqA x.m x.e low) 4 md,low⟩
def bc3(n:Int):Bool:=decide (-3000≤n)&&decide (n≤3000)
end Go.Ab
namespace Go.Ab
open Go Go.Proofs
theorem aDl{K:Nat}{x:ExV}{low:Int}(hx: -(K:Int)≤x.e)(hl: -(K:Int)≤low):(x.rnd low 3).val K≤x.val K∧x.val K≤(x.rnd low 2).val K:=by
 obtain⟨s,m,e⟩:=x
 dsimp only at hx
 by_cases h:low≤e∨m=0
 ·have:∀md,ExV.rnd ⟨s,m,e⟩ low md=⟨s,m,e⟩:=fun md=>by
   unfold ExV.rnd roS roM roE
   dsimp only
   rw[if_pos h,if_pos h,if_pos h]
  rw[this,this];exact⟨Int.le_refl _,Int.le_refl _⟩
 ·have hv:∀md,(ExV.rnd ⟨s,m,e⟩ low md).val K=sv s (rq s m (2^(low-e).toNat) md*2^(low-e).toNat)*2^(e+(K:Int)).toNat:=fun md=>by
   unfold ExV.rnd roS roM roE ExV.val
   dsimp only
   rw[if_neg h,if_neg h,if_neg h,aRS]
   unfold dv
   rw[anx,Int.natCast_pow,Int.mul_assoc]
   congr 1
   show _=(2:Int)^_*_
   rw[←Int.pow_add]
   congr 1
   omega
  rw[hv,hv,aHR,aXK]
  have hB:0<2^(low-e).toNat:=Nat.pow_pos (by omega)
  have hP:(0:Int)<2^(e+(K:Int)).toNat:=Int.pow_pos (by omega)
  have hm:=Nat.div_add_mod m (2^(low-e).toNat)
  have hlt:=Nat.mod_lt m hB
  have h1:m/2^(low-e).toNat*2^(low-e).toNat≤m:=Nat.div_mul_le_self _ _
  have h2:m≤upQ m (2^(low-e).toNat)*2^(low-e).toNat:=by
   unfold upQ
   split
   ·rw[Nat.mul_comm];omega
   ·rw[Nat.add_mul,Nat.mul_comm];omega
  show _≤sv s m*2^(e+(K:Int)).toNat∧sv s m*2^(e+(K:Int)).toNat≤_
  generalize 2^(low-e).toNat=B at*
  generalize (2:Int)^(e+(K:Int)).toNat=P at*
  cases s
  ·rw[if_neg (by simp),if_neg (by simp)]
   exact⟨Int.mul_le_mul_of_nonneg_right (Int.ofNat_le.2 h1) (Int.le_of_lt hP),Int.mul_le_mul_of_nonneg_right (Int.ofNat_le.2 h2) (Int.le_of_lt hP)⟩
  ·rw[if_pos rfl,if_pos rfl]
   exact⟨Int.mul_le_mul_of_nonneg_right (Int.neg_le_neg (Int.ofNat_le.2 h2)) (Int.le_of_lt hP),Int.mul_le_mul_of_nonneg_right (Int.neg_le_neg (Int.ofNat_le.2 h1)) (Int.le_of_lt hP)⟩
theorem aNu{s:SpV}{low:Int}(hs:s.ok=true)(hl: -3000≤low)(hf:(s.out low).fit=true):(s.out low).tel.ok=true∧(s.out low).tel.lo.val 3000≤s.lo.val 3000∧s.hi.val 3000≤(s.out low).tel.hi.val 3000:=by
 obtain⟨o1,o2,o3⟩:=zY hs
 have b1:=(jn o1).1.1
 have b2:=(jn o2).1.1
 have h1:=(aDl (K:=3000) (x:=s.lo) (low:=low) (by omega) (by omega)).1
 have h2:=(aDl (K:=3000) (x:=s.hi) (low:=low) (by omega) (by omega)).2
 have f:s.lo.rnd low 3=(s.out low).lo∧s.hi.rnd low 2=(s.out low).hi:=⟨rfl,rfl⟩
 rw[f.1]at h1
 rw[f.2]at h2
 have e1: -3000≤(s.out low).lo.e:=(ExV.rnd_bd (lo:= -3000) (hi:=4600+low.natAbs) ((Qj o1).mono (by omega) (by omega)) (by omega) (by omega)).2.1
 have e2: -3000≤(s.out low).hi.e:=(ExV.rnd_bd (lo:= -3000) (hi:=4600+low.natAbs) ((Qj o2).mono (by omega) (by omega)) (by omega) (by omega)).2.1
 unfold SpV.tel
 rw[if_pos hf]
 unfold SpV.fit at hf
 rw[Bool.and_eq_true]at hf
 have c1:(s.out low).can.lo.val 3000=(s.out low).lo.val 3000:=apS (by omega)
 have c2:(s.out low).can.hi.val 3000=(s.out low).hi.val 3000:=apS (by omega)
 rw[c1,c2]
 refine⟨?_,h1,h2⟩
 unfold SpV.ok
 rw[c1,c2,show(s.out low).can.lo.ok=true from apT hf.1,show(s.out low).can.hi.ok=true from apT hf.2,decide_eq_true (by omega)]
 rfl
theorem Yu(n e:Int)(hn: -9223372036854775808≤n∧n<9223372036854775808)(he: -12000≤e∧e≤12000):Con Tryz.prog 17 false [.v (.int .i64 n),.v (.int .i64 e)] [] (isA (.ag [.v (.bool ((ExV.mk (decide (n<0)) n.natAbs e).tel).s),.sl (lim ((ExV.mk (decide (n<0)) n.natAbs e).tel).m).length (qb (lim ((ExV.mk (decide (n<0)) n.natAbs e).tel).m)),.v (.int .i64 ((ExV.mk (decide (n<0)) n.natAbs e).tel).e)])):=by
 refine Con.frzA ?_
 have hw:zD (decide (n<0)) (lim n.natAbs)=true:=Qd (by
  have:=qB (m:=n.natAbs) (B:=64) (zq.2 (by omega));omega) (by intro h;simp;omega)
 have c:=yc ⟨decide (n<0),n.natAbs,e⟩ hw he
 generalize ExV.tel ⟨decide (n<0),n.natAbs,e⟩=y at*
 generalize ExV.fit ⟨decide (n<0),n.natAbs,e⟩=b at*
 refine Con.of_w (rs:=[.cell 4 29]) Tryz.func17 rfl Tryz.ntmps17 rfl ?_
 simp(disch:=omega)only[go_sem]
 refine qa (QH n hn) ?_
 simp(disch:=omega)only[go_sem]
 refine qa (c) ?_
 simp(disch:=omega)only[go_sem]
 exact qk
theorem aKD:Con Tryz.prog 24 true [] [] (isA (.v (.bool true))):=by
 have d1:=Yu 1 0 (by omega) (by omega)
 have d2:=Yu 2 0 (by omega) (by omega)
 have d3:=Yu 3 0 (by omega) (by omega)
 have d4:=Yu 1 2 (by omega) (by omega)
 rw[show(ExV.mk (decide ((1:Int)<0)) (1:Int).natAbs 0).tel=⟨false,1,0⟩ by decide+kernel]at d1
 rw[show(ExV.mk (decide ((2:Int)<0)) (2:Int).natAbs 0).tel=⟨false,1,1⟩ by decide+kernel]at d2
 rw[show(ExV.mk (decide ((3:Int)<0)) (3:Int).natAbs 0).tel=⟨false,3,0⟩ by decide+kernel]at d3
 rw[show(ExV.mk (decide ((1:Int)<0)) (1:Int).natAbs 2).tel=⟨false,1,2⟩ by decide+kernel]at d4
 have o1:SpV.ok ⟨⟨false,1,0⟩,⟨false,1,1⟩⟩=true:=by decide+kernel
 have ca:=ai9 _ _ o1 o1
 rw[show(SpV.plus ⟨⟨false,1,0⟩,⟨false,1,1⟩⟩ ⟨⟨false,1,0⟩,⟨false,1,1⟩⟩).tel=⟨⟨false,1,1⟩,⟨false,1,2⟩⟩ by decide+kernel,show(SpV.plus ⟨⟨false,1,0⟩,⟨false,1,1⟩⟩ ⟨⟨false,1,0⟩,⟨false,1,1⟩⟩).fit=true by decide+kernel]at ca
 have ch:=ai8 ⟨⟨false,1,1⟩,⟨false,1,2⟩⟩ ⟨false,3,0⟩ (by decide+kernel) (by decide+kernel)
 rw[show Jg ⟨⟨false,1,1⟩,⟨false,1,2⟩⟩ ⟨false,3,0⟩=true by decide+kernel]at ch
 have cs:=apb ⟨false,1,2⟩ ⟨false,1,2⟩ (by decide+kernel) (by decide+kernel)
 rw[decide_eq_true rfl]at cs
 refine Con.of_w (rs:=[.tmp 0]) Tryz.func24 rfl Tryz.ntmps24 rfl ?_
 simp(disch:=omega)only[go_sem]
 refine qa (d1) ?_
 simp(disch:=omega)only[go_sem]
 refine qa (d2) ?_
 simp(disch:=omega)only[go_sem]
 refine qa (apJ ⟨false,1,0⟩ ⟨false,1,1⟩ o1) ?_
 simp(disch:=omega)only[go_sem]
 refine qa (ca) ?_
 simp(disch:=omega)only[go_sem]
 refine qp rfl [⟨0,[],[]⟩,⟨1,[],[]⟩,⟨2,[],[]⟩,⟨3,[],[]⟩,⟨4,[],[]⟩,⟨5,[],[]⟩,⟨6,[],[]⟩,⟨7,[6],[]⟩,⟨8,[],[]⟩,⟨9,[],[]⟩,⟨10,[],[]⟩,⟨11,[],[]⟩,⟨12,[11],[]⟩,⟨13,[],[]⟩,⟨14,[],[]⟩,⟨15,[],[]⟩] (by kernel_rfl) ?_
 simp(disch:=omega)only[go_sem]
 refine qa (d4) ?_
 simp(disch:=omega)only[go_sem]
 refine qe (cs) ?_
 simp(disch:=omega)only[go_sem]
 refine qa (d3) ?_
 simp(disch:=omega)only[go_sem]
 refine qe (ch) ?_
 simp(disch:=omega)only[go_sem]
 exact qy
set_option maxRecDepth 100000 in
set_option maxHeartbeats 4000000 in
theorem ait(l:List UInt8)(hl:l.length≤9223372036854775807):Con Tryz.prog 5 true [.sl l.length (ql l)] [] (isA (.v (.bool true))):=by
 refine Con.of_w (rs:=[.tmp 2]) Tryz.func5 rfl Tryz.ntmps5 rfl ?_
 simp(disch:=omega)only[go_sem]
 refine qe (aKD) ?_
 simp(disch:=omega)only[go_sem]
 refine q8 (Ja l hl) (by simp(disch:=omega)only[go_sem]) ?_
 rintro r hs ⟨rfl, -,⟨⟨⟨S,xs,E⟩,⟨S',xs',E'⟩⟩,⟨⟨T,ys,F⟩,⟨T',ys',F'⟩⟩,la,lb,rfl⟩⟩
 refine⟨by simp[qN],?_⟩
 unfold IvV.cs DyV.cs
 simp(disch:=omega)only[go_sem]
 cases ha:ivB ⟨⟨S,xs,E⟩,⟨S',xs',E'⟩⟩
 ·have hb:(ivB ⟨⟨S,xs,E⟩,⟨S',xs',E'⟩⟩&&ivB ⟨⟨T,ys,F⟩,⟨T',ys',F'⟩⟩)=false:=by rw[ha];rfl
  refine qa (y9 _ _ la lb hb) ?_
  simp(disch:=omega)only[go_sem]
  refine qa (Qa _ _ la lb hb) ?_
  simp(disch:=omega)only[go_sem]
  refine qe (yb _ la) ?_
  simp(disch:=omega)only[go_sem]
  simp(disch:=omega)only[go_sem,ha]
  refine qe (KZ) ?_
  simp(disch:=omega)only[go_sem]
  exact qy
 cases hb:ivB ⟨⟨T,ys,F⟩,⟨T',ys',F'⟩⟩
 ·have hc:(ivB ⟨⟨S,xs,E⟩,⟨S',xs',E'⟩⟩&&ivB ⟨⟨T,ys,F⟩,⟨T',ys',F'⟩⟩)=false:=by rw[hb,Bool.and_false]
  refine qa (y9 _ _ la lb hc) ?_
  simp(disch:=omega)only[go_sem]
  refine qa (Qa _ _ la lb hc) ?_
  simp(disch:=omega)only[go_sem]
  refine qe (yb _ la) ?_
  simp(disch:=omega)only[go_sem]
  simp(disch:=omega)only[go_sem,ha]
  refine qe (yb _ lb) ?_
  simp(disch:=omega)only[go_sem]
  simp(disch:=omega)only[go_sem,hb]
  refine qe (KZ) ?_
  simp(disch:=omega)only[go_sem]
  exact qy
 obtain⟨s,hse,hs⟩:=aJl ha
 obtain⟨t,hte,ht⟩:=aJl hb
 unfold SpV.iv ExV.dyv at hse hte
 injection hse with g1 g2
 injection g1 with a1 a2 a3
 injection g2 with b1 b2 b3
 subst a1 a2 a3 b1 b2 b3
 injection hte with g1 g2
 injection g1 with a1 a2 a3
 injection g2 with b1 b2 b3
 subst a1 a2 a3 b1 b2 b3
 obtain⟨s1,s2,s3⟩:=zY hs
 obtain⟨t1,t2,t3⟩:=zY ht
 obtain⟨m1,m2⟩:=aog s1 t1
 obtain⟨n1,n2⟩:=Kp s2 t2
 obtain⟨p1,p2⟩:=Kp s1 t1
 obtain⟨q1,q2⟩:=aog s2 t2
 have jo:=aoB hs ht
 have mo:=aoj hs ht
 have oo:=aNu (low:= -3) hs (by omega)
 refine qa (adw s t hs ht) ?_
 simp(disch:=omega)only[go_sem]
 refine qa (adx s t hs ht) ?_
 simp(disch:=omega)only[go_sem]
 refine qe (yr s hs) ?_
 simp(disch:=omega)only[go_sem]
 refine qe (yr t ht) ?_
 simp(disch:=omega)only[go_sem]
 refine qa (ai7 s (-3) hs (by omega)) ?_
 simp(disch:=omega)only[go_sem]
 have w3:=zK s (jp s t) hs jo
 have w4:=zK t (jp s t) ht jo
 rw[show(Jg (jp s t) s.lo&&Jg (jp s t) s.hi)=true by
  unfold Jg jp
  dsimp only
  rw[p2,q2]
  simp only[Bool.and_eq_true,decide_eq_true_eq]
  split<;>split<;>omega]at w3
 rw[show(Jg (jp s t) t.lo&&Jg (jp s t) t.hi)=true by
  unfold Jg jp
  dsimp only
  rw[p2,q2]
  simp only[Bool.and_eq_true,decide_eq_true_eq]
  split<;>split<;>omega]at w4
 have w5:(s.out (-3)).fit=true→Con Tryz.prog 30 true [.ag [.v (.bool (s).lo.s),.sl (lim (s).lo.m).length (qb (lim (s).lo.m)),.v (.int .i64 (s).lo.e),.v (.bool (s).hi.s),.sl (lim (s).hi.m).length (qb (lim (s).hi.m)),.v (.int .i64 (s).hi.e)],.ag [.v (.bool ((s.out (-3)).tel).lo.s),.sl (lim ((s.out (-3)).tel).lo.m).length (qb (lim ((s.out (-3)).tel).lo.m)),.v (.int .i64 ((s.out (-3)).tel).lo.e),.v (.bool ((s.out (-3)).tel).hi.s),.sl (lim ((s.out (-3)).tel).hi.m).length (qb (lim ((s.out (-3)).tel).hi.m)),.v (.int .i64 ((s.out (-3)).tel).hi.e)]] [] (isA (.v (.bool true))):=fun hf=>by
  obtain⟨k1,k2,k3⟩:=oo hf
  have w:=zK s _ hs k1
  rw[show(Jg (s.out (-3)).tel s.lo&&Jg (s.out (-3)).tel s.hi)=true by
   have:=(zY k1).2.2
   unfold Jg
   simp only[Bool.and_eq_true,decide_eq_true_eq]
   omega]at w
  exact w
 by_cases hm:(zh s t).lo.val 3000≤(zh s t).hi.val 3000
 ·have mk:=mo hm
  have w1:=zK (zh s t) s mk hs
  have w2:=zK (zh s t) t mk ht
  have hm':=hm
  unfold zh at hm'
  dsimp only at hm'
  rw[m2,n2]at hm'
  rw[show(Jg s (zh s t).lo&&Jg s (zh s t).hi)=true by
   unfold Jg zh
   dsimp only
   rw[m2,n2]
   simp only[Bool.and_eq_true,decide_eq_true_eq]
   split at hm'<;>split at hm'<;>omega]at w1
  rw[show(Jg t (zh s t).lo&&Jg t (zh s t).hi)=true by
   unfold Jg zh
   dsimp only
   rw[m2,n2]
   simp only[Bool.and_eq_true,decide_eq_true_eq]
   split at hm'<;>split at hm'<;>omega]at w2
  have e1:Z5 s t=zh s t:=if_pos hm
  rw[decide_eq_true hm,e1]
  have c1:s.lo.val 3000≤t.hi.val 3000:=by split at hm'<;>split at hm'<;>omega
  have c2:t.lo.val 3000≤s.hi.val 3000:=by split at hm'<;>split at hm'<;>omega
  generalize zh s t=M at*
  simp(disch:=omega)only[go_sem]
  refine qe (w1) ?_
  simp(disch:=omega)only[go_sem]
  refine qe (w2) ?_
  simp(disch:=omega)only[go_sem]
  refine qe (w3) ?_
  simp(disch:=omega)only[go_sem]
  refine qe (w4) ?_
  simp(disch:=omega)only[go_sem]
  have g1:decide (zg (s.lo.val 3000) (t.hi.val 3000)≤0)=decide (s.lo.val 3000≤t.hi.val 3000):=decide_eq_decide.2 (zL _ _).1
  have g2:decide (zg (t.lo.val 3000) (s.hi.val 3000)≤0)=decide (t.lo.val 3000≤s.hi.val 3000):=decide_eq_decide.2 (zL _ _).1
  cases hf:(s.out (-3)).fit
  ·simp(disch:=omega)only[go_sem,hf]
   refine qe (z8 s.lo t.hi s1 t2) ?_
   simp(disch:=omega)only[go_sem]
   simp(disch:=omega)only[go_sem,g1,decide_eq_true c1]
   refine qe (z8 t.lo s.hi t1 s2) ?_
   simp(disch:=omega)only[go_sem]
   simp(disch:=omega)only[go_sem,g2,decide_eq_true c2]
   exact qy
  ·simp(disch:=omega)only[go_sem,hf]
   refine qe (w5 hf) ?_
   simp(disch:=omega)only[go_sem]
   refine qe (z8 s.lo t.hi s1 t2) ?_
   simp(disch:=omega)only[go_sem]
   simp(disch:=omega)only[go_sem,g1,decide_eq_true c1]
   refine qe (z8 t.lo s.hi t1 s2) ?_
   simp(disch:=omega)only[go_sem]
   simp(disch:=omega)only[go_sem,g2,decide_eq_true c2]
   exact qy
 ·have hn:s.lo.val 3000≤t.hi.val 3000→¬t.lo.val 3000≤s.hi.val 3000:=fun c1 c2=>hm (by
   unfold zh
   dsimp only
   rw[m2,n2]
   split<;>split<;>omega)
  rw[decide_eq_false hm]
  simp(disch:=omega)only[go_sem]
  refine qe (w3) ?_
  simp(disch:=omega)only[go_sem]
  refine qe (w4) ?_
  simp(disch:=omega)only[go_sem]
  have g1:decide (zg (s.lo.val 3000) (t.hi.val 3000)≤0)=decide (s.lo.val 3000≤t.hi.val 3000):=decide_eq_decide.2 (zL _ _).1
  have g2:decide (zg (t.lo.val 3000) (s.hi.val 3000)≤0)=decide (t.lo.val 3000≤s.hi.val 3000):=decide_eq_decide.2 (zL _ _).1
  cases hf:(s.out (-3)).fit
  ·simp(disch:=omega)only[go_sem,hf]
   refine qe (z8 s.lo t.hi s1 t2) ?_
   simp(disch:=omega)only[go_sem]
   by_cases c1:s.lo.val 3000≤t.hi.val 3000
   ·simp(disch:=omega)only[go_sem,g1,decide_eq_true c1]
    refine qe (z8 t.lo s.hi t1 s2) ?_
    simp(disch:=omega)only[go_sem]
    simp(disch:=omega)only[go_sem,g2,decide_eq_false (hn c1)]
    exact qy
   ·simp(disch:=omega)only[go_sem,g1,decide_eq_false c1]
    exact qy
  ·simp(disch:=omega)only[go_sem,hf]
   refine qe (w5 hf) ?_
   simp(disch:=omega)only[go_sem]
   refine qe (z8 s.lo t.hi s1 t2) ?_
   simp(disch:=omega)only[go_sem]
   by_cases c1:s.lo.val 3000≤t.hi.val 3000
   ·simp(disch:=omega)only[go_sem,g1,decide_eq_true c1]
    refine qe (z8 t.lo s.hi t1 s2) ?_
    simp(disch:=omega)only[go_sem]
    simp(disch:=omega)only[go_sem,g2,decide_eq_false (hn c1)]
    exact qy
   ·simp(disch:=omega)only[go_sem,g1,decide_eq_false c1]
    exact qy
end Go.Ab
namespace Go.Proofs.YtjkhfpjccemboaaGreatDoor
open Go.ChangeShapes Go.WideShapes Go.ChangeAt Go.RowKit Go.Ab
theorem own:ownKnob Tryz.prog.godebug=none:=by kernel_rfl
theorem aJf:laidOutB Tryz.prog=true:=by kernel_rfl
theorem anw:Tryz.prog.globalNamed "math/bits.deBruijn64tab" =some 1:=by kernel_rfl
theorem aHu:(Tryz.prog.globals[1]?).map (·.type)=some 257:=by kernel_rfl
theorem aHt:Tryz.prog.underlying 257=some (.array 64 5):=by kernel_rfl
theorem aHx:Tryz.prog.underlying 5=some (.int .u8):=by kernel_rfl
theorem aHy:Tryz.prog.cellsOf 5=1:=by kernel_rfl
theorem aHv:Tryz.prog.cellsOf 257=64:=by kernel_rfl
noncomputable def yo:List (String×DataW Unit):=[("math/bits.deBruijn32tab",Rows.laid_math_bits_deBruijn32tab),("math/bits.deBruijn64tab",Rows.laid_math_bits_deBruijn64tab)]
theorem aHw{W:World}(h:laidMetH Tryz.prog yo W):Gd W:=by
 have h':laidMet Tryz.prog yo W:=h
 have h2:laidMet Tryz.prog [("math/bits.deBruijn64tab",Lib.tabData .u8 (Lib.deBruijn64tab.map Int.ofNat))] W:=laidMet.tail h'
 have hT:=Lib.tabIs_of_head anw aHu aHt aHx aHy aHv h2
 intro g l hg
 unfold glb at hg
 split at hg
 ·rename_i e
  subst e
  cases hg
  have hc:∀i,i<Lib.deBruijn64tab.length→W.cell? ⟨1,i,none⟩=some (.int .u8 ((Lib.deBruijn64tab.getD i 0:Nat):Int)):=fun i hi=>by
   have:=hT.cell anw i (by simpa using hi)
   rw[this]
   simp[List.getD,hi]
  exact⟨ael (hc 0 (by decide)),hc⟩
 ·cases hg
noncomputable def Kq(os:Os):World:=
 let w0:=World.holding Tryz.prog os ⟨#[],#[],[]⟩
 {w0 with heap:=(w0.heap.modify 1 fun
   | .cells _ t frozen=>.cells (Lib.deBruijn64tab.map fun z=>Value.int .u8 (Int.ofNat z)).toArray t frozen
   |o=>o).modify 0 fun
   | .cells _ t frozen=>.cells (Lib.deBruijn32tab.map fun z=>Value.int .u8 (Int.ofNat z)).toArray t frozen
   |o=>o}
theorem J7(os:Os)(args:Array Value):laidMetH Tryz.prog yo ((Kq os).forCall (fun _ _=>0) ⟨#[],args,[]⟩).memory:=
 laidMetH_of_parts (laidMet_of_run' 8 (by kernel_rfl) (by kernel_rfl)) (by kernel_rfl)
end Go.Proofs.YtjkhfpjccemboaaGreatDoor
