/- What the proof of this claim stands on: the walks of the functions and the plain laws, part 5. -/
import Derived.Test.YtcobffkepgogiaaGreatDoorFnIvDivsLib4
set_option linter.unusedVariables false
set_option linter.unusedSimpArgs false
namespace Go.Ab
open Go Go.Proofs
section
variable (g:Nat)(p:DyV→Bool)
theorem aj1(x:DyV)(hf:Con Tryz.prog g true [.ag x.cs] [] (isA (.v (.bool (p x)))))(hg:qo Tryz.prog g=True):
  Con Tryz.prog 228 true [.ag x.cs,.fp [.fn g []] 0] [] (isA (.v (.bool (!p x)))):=by
 unfold DyV.cs at hf ⊢
 refine Con.of_w (rs:=[.tmp 3]) Tryz.func228 rfl Tryz.ntmps228 rfl ?_
 simp(disch:=omega)only[go_sem,hg]
 refine qz hf (by simp(disch:=omega)only[go_sem]) ?_
 rintro r hs ⟨rfl,rfl,_⟩
 refine⟨by simp[qP],?_⟩
 simp(disch:=omega)only[go_sem]
 exact qA
theorem aej(f:Nat)(caps:List AV)(xs:List DyV)(hl:xs.length≤2^40)(hf:∀x∈xs,Con Tryz.prog f true (.ag x.cs::caps) [] (isA (.v (.bool (p x)))))(hg:qo Tryz.prog f=True)
  (hc:∀h:Nat→Ob,caps.map (qF h 6)=caps) (hc5:∀h:Nat→Ob,caps.map (qF h 5)=caps) (hn:∀ks,AllL (j8 ks) caps) (hr:∀ρ,zK ρ caps=caps):
  Con Tryz.prog 266 true [.sl xs.length (qu DyV.cs xs),.fn f caps] [] (fun r hs bs=>∃i:Int,r=.v (.int .i64 i)∧hs=[]∧(0≤i↔∃x∈xs,p x=true)):=by
 refine Con.of_aw Tryz.func266 rfl Tryz.ntmps266 (by simp) (by simp) (by simp) (W.sound ?_)
 show @W Tryz.prog 19 ⟨_⟩ ⟨fun x σ=>@qX _ _ _ ⟨_⟩ _ ⟨_⟩ x σ⟩ _ _
 simp(disch:=omega)only[go_sem]
 refine qj (fun i:Nat=>[(0,.sl xs.length (qu DyV.cs xs)),(1,.fn f caps),(6,.sl xs.length (qu DyV.cs xs)),(7,.v (.int .i64 xs.length)),(8,.v (.int .i64 i))])
  (fun _=>[]) (fun i=>i≤xs.length∧∀j,j<i→p (xs.getD j ⟨false,[],0⟩)=false) (fun i=>xs.length-i) 0 ⟨by omega,fun j hj=>by omega⟩ (Le.lst [] _ _ rfl (by simp(disch:=omega)only[go_sem,hr,hn]) (by simp(disch:=omega)only[go_sem])) ?_
 rintro i ⟨hi,hp⟩
 simp(disch:=omega)only[go_sem]
 refine qe (fun h1=>?_) (fun h1=>?_)
 ·have hcut:=Yv (l:=xs) aFa (i:=i) (by omega) ⟨false,[],0⟩
  simp(disch:=omega)only[go_sem,h1,hcut,hg]
  refine⟨by omega,by omega,qz (hf (xs.getD i ⟨false,[],0⟩) (by rw[List.getD_eq_getElem?_getD,List.getElem?_eq_getElem (by omega)];exact List.getElem_mem _)) (by simp(disch:=omega)only[go_sem,hc,hc5]) ?_⟩
  rintro r hs ⟨rfl,rfl,_⟩
  refine⟨by simp[qP],?_⟩
  simp(disch:=omega)only[go_sem]
  refine yk (fun h2=>?_) (fun h2=>?_)
  ·simp(disch:=omega)only[go_sem,h2]
   refine qx (by simp(disch:=omega)only[go_sem]) (by simp(disch:=omega)only[go_sem]) ⟨i,rfl,rfl,?_⟩
   refine⟨fun _=>⟨_,?_,h2⟩,fun _=>by omega⟩
   rw[List.getD_eq_getElem?_getD,List.getElem?_eq_getElem (by omega)];exact List.getElem_mem _
  ·simp(disch:=omega)only[go_sem,h2]
   refine qc (i+1) [] ⟨by omega,fun j hj=>?_⟩ (by show xs.length-(i+1)<xs.length-i;omega) rfl (by simp(disch:=omega)only[go_sem,hr,hn];try omega) (by simp(disch:=omega)only[go_sem])
   rcases(by omega:j<i∨j=i)with h|h
   ·exact hp j h
   ·subst h;exact h2
 ·simp(disch:=omega)only[go_sem,h1]
  refine qx (by simp(disch:=omega)only[go_sem]) (by simp(disch:=omega)only[go_sem]) ⟨-1,rfl,rfl,?_⟩
  refine⟨fun h=>by omega,fun⟨x,hx,hpx⟩=>?_⟩
  obtain⟨j,hj,rfl⟩:=List.getElem_of_mem hx
  have:=hp j (by omega)
  rw[List.getD_eq_getElem?_getD,List.getElem?_eq_getElem hj]at this
  simp only[Option.getD_some]at this
  rw[this]at hpx;cases hpx
theorem JD(f:Nat)(caps:List AV)(xs:List DyV)(hl:xs.length≤2^40)(hf:∀x∈xs,Con Tryz.prog f true (.ag x.cs::caps) [] (isA (.v (.bool (p x)))))(hg:qo Tryz.prog f=True)
  (hc:∀h:Nat→Ob,caps.map (qF h 6)=caps) (hc5:∀h:Nat→Ob,caps.map (qF h 5)=caps) (hn:∀ks,AllL (j8 ks) caps) (hr:∀ρ,zK ρ caps=caps):
  Con Tryz.prog 227 true [.sl xs.length (qu DyV.cs xs),.fn f caps] [] (isA (.v (.bool (xs.any p)))):=by
 refine Con.of_aw Tryz.func227 rfl Tryz.ntmps227 (by simp) (by simp) (by simp) (W.sound ?_)
 show @W Tryz.prog 9 ⟨_⟩ ⟨fun x σ=>@qX _ _ _ ⟨_⟩ _ ⟨_⟩ x σ⟩ _ _
 simp(disch:=omega)only[go_sem]
 refine qz (aej p f caps xs hl hf hg hc hc5 hn hr) (by simp(disch:=omega)only[go_sem,hc,hc5]) ?_
 rintro r hs ⟨i,rfl,rfl,hi⟩
 refine⟨by simp[qP],?_⟩
 simp(disch:=omega)only[go_sem]
 refine qx (by simp(disch:=omega)only[go_sem]) (by simp(disch:=omega)only[go_sem]) ⟨?_,rfl,rfl⟩
 have:decide (0≤i)=xs.any p:=by rw[Bool.eq_iff_iff,decide_eq_true_eq,hi,List.any_eq_true]
 rw[this];rfl
theorem aqO(xs:List DyV)(hl:xs.length≤2^40)(hf:∀x∈xs,Con Tryz.prog g true [.ag x.cs] [] (isA (.v (.bool (p x)))))(hg:qo Tryz.prog g=True):
  Con Tryz.prog 164 true [.sl xs.length (qu DyV.cs xs),.fn g []] [] (isA (.v (.bool (xs.all p)))):=by
 refine Con.of_aw Tryz.func164 rfl Tryz.ntmps164 (by simp) (by simp) (by simp) (W.sound ?_)
 show @W Tryz.prog 9 ⟨_⟩ ⟨fun x σ=>@qX _ _ _ ⟨_⟩ _ ⟨_⟩ x σ⟩ _ _
 simp(disch:=omega)only[go_sem]
 refine qz (JD (fun x=> !p x) 228 [.fp [.fn g []] 0] xs hl (fun x hx=>aj1 g p x (hf x hx) hg) (by simp(disch:=omega)only[go_sem]) (fun h=>rfl) (fun h=>rfl) (fun ks=>by simp(disch:=omega)only[go_sem]) (fun ρ=>rfl)) (by simp(disch:=omega)only[go_sem]) ?_
 rintro r hs ⟨rfl,rfl,_⟩
 refine⟨by simp[qP],?_⟩
 simp(disch:=omega)only[go_sem]
 refine qx (by simp(disch:=omega)only[go_sem]) (by simp(disch:=omega)only[go_sem]) ⟨?_,rfl,rfl⟩
 have:(!xs.any fun x=> !p x)=xs.all p:=by rw[List.all_eq_not_any_not]
 rw[this];rfl
end
def DyV.ok(x:DyV):Bool:=dyB x.s x.xs x.e
theorem Yg(xs:List DyV)(hl:xs.length≤2^40)(hx:∀x∈xs,x.xs.length≤2^40):Con Tryz.prog 81 true [.sl xs.length (qu DyV.cs xs)] [] (isA (.v (.bool (xs.all DyV.ok)))):=by
 refine Con.of_w (rs:=[.tmp 2]) Tryz.func81 rfl Tryz.ntmps81 rfl ?_
 simp(disch:=omega)only[go_sem]
 refine qi (aqO 92 DyV.ok xs hl (fun x h=>afg x.s x.xs x.e (hx x h)) (by simp(disch:=omega)only[go_sem])) ?_
 simp(disch:=omega)only[go_sem]
 exact qA
def aMQ(n:Int)(l:List DyV):Bool:=(decide (1≤n)&&decide (n≤4))&&(decide ((l.length:Int)=n*n)&&l.all DyV.ok)
theorem aqP(n:Int)(l:List DyV)(hl:l.length≤2^40)(hx:∀x∈l,x.xs.length≤2^40):Con Tryz.prog 80 true [.ag [.v (.int .i64 n),.sl l.length (qu DyV.cs l)]] [] (isA (.v (.bool (aMQ n l)))):=by
 unfold aMQ
 cases h1:(decide (1≤n)&&decide (n≤4))
 ·rw[Bool.false_and]
  refine Con.of_w (rs:=[.tmp 2]) Tryz.func80 rfl Tryz.ntmps80 rfl ?_
  simp(disch:=omega)only[go_sem]
  refine qi (zN n 1 4) ?_
  simp(disch:=omega)only[go_sem]
  simp(disch:=omega)only[go_sem,h1]
  exact qA
 ·rw[Bool.true_and]
  have h1':1≤n∧n≤4:=by simpa using h1
  have hq:0≤n*n∧n*n≤16:=⟨Int.mul_nonneg (by omega) (by omega),Int.mul_le_mul h1'.2 h1'.2 (by omega) (by omega)⟩
  cases h2:decide ((l.length:Int)=n*n)
  ·rw[Bool.false_and]
   refine Con.of_w (rs:=[.tmp 2]) Tryz.func80 rfl Tryz.ntmps80 rfl ?_
   simp(disch:=omega)only[go_sem]
   refine qi (zN n 1 4) ?_
   simp(disch:=omega)only[go_sem]
   simp(disch:=omega)only[go_sem,h1,h2]
   exact qA
  ·rw[Bool.true_and]
   refine Con.of_w (rs:=[.tmp 2]) Tryz.func80 rfl Tryz.ntmps80 rfl ?_
   simp(disch:=omega)only[go_sem]
   refine qi (zN n 1 4) ?_
   simp(disch:=omega)only[go_sem]
   simp(disch:=omega)only[go_sem,h1,h2]
   refine qi (Yg l hl hx) ?_
   simp(disch:=omega)only[go_sem]
   exact qA
end Go.Ab
namespace Go.Ab
open Go Go.Proofs
def ExV.dy(x:ExV):DyV:=⟨x.s,lim x.m,x.e⟩
theorem aN3(l:List ExV):qu ExV.cs l=qu DyV.cs (l.map ExV.dy):=by unfold qu;rw[List.map_map];rfl
def ExV.ok(x:ExV):Bool:=dyB x.s (lim x.m) x.e
def aO0(n:Int)(l:List ExV):Bool:=(decide (1≤n)&&decide (n≤4))&&(decide ((l.length:Int)=n*n)&&l.all ExV.ok)
theorem aKt(n:Int)(l:List ExV):aMQ n (l.map ExV.dy)=aO0 n l:=by
 unfold aMQ aO0
 rw[List.length_map,List.all_map];rfl
theorem aj2(n:Int)(l:List ExV)(hl:l.length≤2^40)(hx:∀x∈l,(lim x.m).length≤2^40):Con Tryz.prog 80 true [.ag [.v (.int .i64 n),.sl l.length (qu ExV.cs l)]] [] (isA (.v (.bool (aO0 n l)))):=by
 have:=aqP n (l.map ExV.dy) (by rw[List.length_map];exact hl) (fun x h=>by
  obtain⟨y,hy,rfl⟩:=List.mem_map.1 h
  exact hx y hy)
 rw[aKt,←aN3,List.length_map]at this
 exact this
theorem Q8{x:ExV}(h:x.ok=true):x.bd (-3000) 4600:=by
 obtain⟨m,e1,h1,h2,h3,_,h4⟩:=QI h
 have e2:x.m=m:=yj e1
 subst e2
 exact⟨h4,by omega,by omega⟩
def aji(F:List SpV)(X:List ExV)(k:Nat):List ExV:=(List.range k).map fun i=>q7 [((F.getD i sp0).hi.plus (X.getD i ex0).neg).abs,((X.getD i ex0).plus (F.getD i sp0).lo.neg).abs]
theorem Qe{F:List SpV}{X:List ExV}{k:Nat}:(aji F X k).length=k:=by simp[aji]
theorem apc{F:List SpV}{X:List ExV}{k:Nat}:aji F X (k+1)=aji F X k++[q7 [((F.getD k sp0).hi.plus (X.getD k ex0).neg).abs,((X.getD k ex0).plus (F.getD k sp0).lo.neg).abs]]:=by simp[aji,List.range_succ]
theorem apb{lo hi:Int}{s:SpV}{x:ExV}(hs:s.bd lo hi)(hx:x.bd lo hi):gbd lo (hi+1) [(s.hi.plus x.neg).abs,(x.plus s.lo.neg).abs]:=by
 intro y hy
 simp only[List.mem_cons,List.not_mem_nil,or_false]at hy
 rcases hy with rfl|rfl
 ·exact ExV.abs_bd (ExV.plus_bd hs.2 (ExV.neg_bd hx))
 ·exact ExV.abs_bd (ExV.plus_bd hx (ExV.neg_bd hs.1))
theorem aJY{lo hi:Int}{F:List SpV}{X:List ExV}{k:Nat}(hF:sbd lo hi F)(hX:gbd lo hi X)(h1:k≤F.length)(h2:k≤X.length):gbd lo (hi+1) (aji F X k):=by
 intro y hy
 simp only[aji,List.mem_map,List.mem_range]at hy
 obtain⟨i,hi,rfl⟩:=hy
 exact Zl (apb (jA hF (by omega)) (zx hX (by omega))) (by simp)
def ae8(n:Nat)(F:List SpV)(low:Int):List ExV:=aKV n (F.map adQ) low 0
def jL(n:Nat)(F:List SpV)(low:Int):ExV:=yh n (aji F (ae8 n F low) (n*n)) n
theorem aKr{lo hi:Int}{s:SpV}(hs:s.bd lo hi):(adQ s).bd (lo-1) hi:=by
 have:=ExV.shift_bd (k:= -1) (ExV.plus_bd hs.1 hs.2)
 exact this.mono (by omega) (by omega)
theorem aKU{lo hi low mode:Int}{n:Nat}{l:List ExV}(hl:l.length=n*n)(h:gbd lo hi l)(h1:lo≤low)(h2:low≤hi):gbd lo (hi+1) (aKV n l low mode):=
 aZx fun i j hi hj=>ExV.rnd_bd (zx h (by rw[hl];exact Qi hi hj)) h1 h2
set_option maxRecDepth 100000 in
set_option maxHeartbeats 2000000 in
theorem aeq(n:Nat)(L:List ExV)(low:Int)(F:List SpV)(hn:n≤4)(hL:L.length=n*n)(hlow: -1000≤low∧low≤1000)(ca:Con Tryz.prog 146 true [.ag [.v (.int .i64 (n)),.sl (L).length (qu ExV.cs (L))],.v (.int .i64 low)] [] (isA (.v (.bool true))))
  (ch:Con Tryz.prog 170 false [.ag [.v (.int .i64 (n)),.sl (L).length (qu ExV.cs (L))],.v (.int .i64 low)] [] (isA (.ag [.v (.int .i64 (n)),.sl (F).length (qu SpV.cs (F))]))) (hF:F.length=n*n) (hFb:sbd (-300000) 300000 F) (hfit:F.all SpV.fit=true):
  Con Tryz.prog 89 false [.ag [.v (.int .i64 (n)),.sl (L).length (qu ExV.cs (L))],.v (.int .i64 low)] []
   (isA (if((ae8 n F low).all ExV.fit&&(jL n F low).fit)=true then .tu [.ag [.v (.int .i64 n),.sl (ae8 n F low).length (qu ExV.cs ((ae8 n F low).map ExV.can))],.ag [.v (.bool ((jL n F low).can).s),.sl (lim ((jL n F low).can).m).length (qb (lim ((jL n F low).can).m)),.v (.int .i64 ((jL n F low).can).e)],.v (.bool true)]else .tu [.ag [.v (.int .i64 0),.sl 0 []],.ag [.v (.bool (false)),.sl (lim (0)).length (qb (lim (0))),.v (.int .i64 (0))],.v (.bool false)])):=by
 refine Con.frzA ?_
 have hq:=aoE hn
 have cg:=Jb n L (by omega)
 have cv:=aqF n F (by omega) (jU hFb (by omega) (by omega))
 rw[hfit,if_pos rfl]at cv
 have cm:=aLO n F (by omega) (jU hFb (by omega) (by omega))
 have hml:(F.map adQ).length=n*n:=by rw[List.length_map,hF]
 have hmb:gbd (-300001) 300000 (F.map adQ):=by
  intro x hx
  obtain⟨s,hs,rfl⟩:=List.mem_map.1 hx
  exact(aKr (hFb s hs)).mono (by omega) (by omega)
 have cr:=aC5 n (F.map adQ) low 0 hn hml (Zo hmb (by omega) (by omega)) (by omega)
 have hXl:(ae8 n F low).length=n*n:=by unfold ae8 aKV;exact ZY
 have hXb:gbd (-300001) 300001 (ae8 n F low):=aKU hml hmb (by omega) (by omega)
 change Con _ _ _ _ _ (isA (.ag [.v (.int .i64 (n)),.sl (ae8 n F low).length (qu ExV.cs (ae8 n F low))]))at cr
 have hOb:gbd (-300001) 300002 (aji F (ae8 n F low) (n*n)):=aJY (jU hFb (by omega) (by omega)) hXb (by omega) (by omega)
 have cno:=Y4 n (aji F (ae8 n F low) (n*n)) hn Qe (Zo hOb (by omega) (by omega))
 change Con _ _ _ _ _ (isA (.ag [.v (.bool (jL n F low).s),.sl (lim (jL n F low).m).length (qb (lim (jL n F low).m)),.v (.int .i64 (jL n F low).e)]))at cno
 have hFar:(jL n F low).bd (-300001) 300006:=(YA Qe hOb (by omega) n (Nat.le_refl _)).mono (by omega) (by omega)
 have cw:=JB n (ae8 n F low) (jL n F low) (by omega) (Zo hXb (by omega) (by omega)) (hFar.mono (by omega) (by omega))
 generalize jL n F low=far at*
 generalize ae8 n F low=X at*
 generalize F.map adQ=M at*
 generalize F.map SpV.can=FC at*
 refine Con.of_w (rs:=[.cell 4 25,.cell 5 40,.tmp 6]) Tryz.func89 rfl Tryz.ntmps89 rfl ?_
 simp(disch:=omega)only[go_sem]
 refine qi (ca) ?_
 simp(disch:=omega)only[go_sem]
 refine qa (cg) ?_
 simp(disch:=omega)only[go_sem]
 refine qa (ch) ?_
 simp(disch:=omega)only[go_sem]
 refine qa (cv) ?_
 simp(disch:=omega)only[go_sem]
 refine qa (cm) ?_
 simp(disch:=omega)only[go_sem]
 refine qa (cr) ?_
 simp(disch:=omega)only[go_sem]
 refine qj (fun i:Nat=>[(4,.pt 2 0),(5,.pt 3 0),(7,.pt 4 0),(10,.pt 5 0),(11,.pt 0 0),(41,.sl F.length (qu SpV.cs F)),(42,.v (.int .i64 F.length)),(43,.v (.int .i64 i))])
  (fun i=>[(0,.own 0 [.v (.int .i64 n),.rf 1 0 i]),(1,.own 3 (qu ExV.cs (aji F X i))),(2,.own 0 [.v (.int .i64 0),.v (.slice none 0 0)]),(3,.own 0 [.v (.bool false),.v (.slice none 0 0),.v (.int .i64 0)]),(4,.own 0 [.v (.int .i64 n),.sl F.length (qu SpV.cs F)]),(5,.own 0 [.v (.int .i64 n),.sl X.length (qu ExV.cs X)])])
  (fun i=>i≤F.length) (fun i=>F.length-i) 0 (by omega)
  ((Le.ghostC 130000000 1 1 3 (zo:=0) (cs:=[.v (.int .i64 n),.v (.slice none 0 0)]) (by simp(disch:=omega)only[go_sem]) rfl (by simp(disch:=omega)only[go_sem])).trans (Le.lst [(0,130000000),(2,60000000),(3,70000000),(4,90000000),(5,120000000)] _ _ rfl (by simp(disch:=omega)only[go_sem]) (by simp(disch:=omega)only[go_sem,show aji F X 0=[] from rfl,YW,List.set_cons_succ,List.set_cons_zero]))) ?_
 intro i hi
 simp(disch:=omega)only[go_sem]
 refine qe (fun h1=>?_) (fun h1=>?_)
 ·have hi2:i<F.length:=by omega
  have hci:=yS hi2
  have hcx:=zW (l:=X) (i:=i) (by omega)
  have hcut:=zL (Qe (F:=F) (X:=X) (k:=i))
  have hs:=apc (F:=F) (X:=X) (k:=i)
  have bs:=jA hFb hi2
  have bx:=zx hXb (show i<X.length by omega)
  have b2:=apb (SpV.bd.mono bs (by omega) (by omega)) bx
  generalize F.getD i sp0=s at*
  generalize X.getD i ex0=x at*
  simp(disch:=omega)only[go_sem,h1,hci]
  refine⟨by omega,by omega,?_⟩
  refine qp rfl [⟨0,[],[]⟩,⟨1,[],[]⟩,⟨2,[1],[]⟩,⟨3,[1],[]⟩,⟨4,[1,3],[]⟩,⟨5,[1,3],[]⟩,⟨6,[1,3,5],[]⟩,⟨7,[1,3],[]⟩,⟨8,[1,3],[]⟩,⟨11,[1,3,5,8],[]⟩,⟨12,[1,3,5,8],[]⟩,⟨13,[1,3,5,8,12],[]⟩,⟨14,[1,3,5,8],[]⟩,⟨15,[1,3,5,8],[]⟩,⟨16,[1,3,5,8,12,15],[]⟩,⟨17,[1,3,5,8,12,15],[]⟩,⟨9,[1,12,15,17],[]⟩,⟨10,[1,12,15,17],[]⟩,⟨18,[1],[]⟩,⟨19,[1],[]⟩,⟨20,[1],[]⟩,⟨21,[1],[]⟩,⟨22,[1],[]⟩,⟨23,[],[]⟩,⟨24,[],[]⟩,⟨25,[],[]⟩] (by kernel_rfl) ?_
  simp(disch:=omega)only[go_sem,hcx]
  refine⟨by omega,by omega,by omega,by omega,?_⟩
  refine qa (QM s.hi x (bs.2.mono (by omega) (by omega)) (bx.mono (by omega) (by omega))) ?_
  simp(disch:=omega)only[go_sem]
  refine qa (Xb (s.hi.plus x.neg)) ?_
  simp(disch:=omega)only[go_sem]
  refine qa (QM x s.lo (bx.mono (by omega) (by omega)) (bs.1.mono (by omega) (by omega))) ?_
  simp(disch:=omega)only[go_sem]
  refine qa (Xb (x.plus s.lo.neg)) ?_
  simp(disch:=omega)only[go_sem]
  generalize (s.hi.plus x.neg).abs=A at*
  generalize (x.plus s.lo.neg).abs=B at*
  have hrow:([.v (.bool A.s),.sl (lim A.m).length (qb (lim A.m)),.v (.int .i64 A.e),.v (.bool B.s),.sl (lim B.m).length (qb (lim B.m)),.v (.int .i64 B.e)]:List AV)=qu ExV.cs [A,B]:=rfl
  rw[hrow]
  refine qZ false [700000000] (Ja [A,B] (by simp) (by simp) (Zo b2 (by omega) (by omega))) (by simp(disch:=omega)only[go_sem]) (by simp(disch:=omega)only[go_sem]) rfl (qO (z:=3) (cs:=qu ExV.cs [A,B]) (by simp(disch:=omega)only[go_sem]) (by simp(disch:=omega)only[go_sem])) (by intro n hn;exact⟨_,List.mem_cons_self ..,by rw[List.mem_singleton.1 hn];rfl⟩) ?_
  rintro r hs2 bs2 ⟨rfl,rfl,rfl⟩-
  refine⟨by simp[qP],?_⟩
  simp(disch:=omega)only[go_sem,hcut,Qm]
  refine⟨⟨by rw[Qe];exact Nat.le_refl _,by omega⟩,qc (i+1) [(1,730000000)] (by show i+1≤_;omega) (by show F.length-(i+1)<F.length-i;omega) rfl (by simp(disch:=omega)only[go_sem];try omega) (by simp(disch:=omega)only[go_sem,hs])⟩
 ·simp(disch:=omega)only[go_sem,h1]
  obtain rfl:i=F.length:=by omega
  have hol:=Qe (F:=F) (X:=X) (k:=n*n)
  rw[hF]
  generalize aji F X (n*n)=O at*
  rw[hol]at cno
  refine ad4 (E:=[(4,.pt 2 0),(5,.pt 3 0),(10,.pt 5 0),(11,.pt 0 0)]) (H:=[(0,.own 0 [.v (.int .i64 n),.sl (n*n) (qu ExV.cs O)]),(2,.own 0 [.v (.int .i64 0),.v (.slice none 0 0)]),(3,.own 0 [.v (.bool false),.v (.slice none 0 0),.v (.int .i64 0)]),(5,.own 0 [.v (.int .i64 n),.sl X.length (qu ExV.cs X)])])
   ((Le.frz 1 (z:=3) (ks:=qu ExV.cs O) (by simp(disch:=omega)only[go_sem]) rfl (by simp(disch:=omega)only[go_sem])).trans (Le.lst [] _ _ rfl (by simp(disch:=omega)only[go_sem]) (by simp(disch:=omega)only[go_sem,zL hol]))) ?_
  refine qp rfl [⟨0,[],[]⟩,⟨1,[0],[]⟩,⟨2,[0],[]⟩,⟨3,[],[]⟩,⟨4,[],[]⟩,⟨5,[],[]⟩,⟨6,[],[]⟩,⟨7,[],[]⟩,⟨8,[],[]⟩,⟨9,[],[]⟩] (by kernel_rfl) ?_
  simp(disch:=omega)only[go_sem]
  refine qa (cno) ?_
  simp(disch:=omega)only[go_sem]
  cases hc:(X.all ExV.fit&&far.fit)
  ·rw[hc,if_neg (by simp)]at cw
   rw[if_neg (by simp)]
   refine qa (cw) ?_
   simp(disch:=omega)only[go_sem]
   exact qk (hp:=by simp(disch:=omega)only[go_sem,qm,List.length_nil,ze])
  ·rw[hc,if_pos rfl]at cw
   rw[if_pos rfl]
   refine qa (cw) ?_
   simp(disch:=omega)only[go_sem]
   exact qk
theorem aaG(n:Nat)(h1:n=1):Con Tryz.prog 146 true [.ag [.v (.int .i64 (n)),.sl ([ex0]).length (qu ExV.cs ([ex0]))],.v (.int .i64 (-10))] [] (isA (.v (.bool true))):=by
 have cm:=aj2 n [ex0] (by decide) (by intro x hx;rw[List.mem_singleton.1 hx];show(lim 0).length≤_;rw[qm];decide)
 have hm:aO0 n [ex0]=true:=by
  rw[h1];unfold aO0;rw[List.all_cons,List.all_nil,show ex0.ok=true by show dyB false (lim 0) 0=true;rw[qm];decide];decide
 rw[hm]at cm
 have cg:=Jb n [ex0] (by decide)
 have cn:=Y4 n [ex0] (by omega) (by rw[h1];rfl) (by decide+kernel)
 rw[show yh n [ex0] n=ex0 by rw[h1];decide+kernel]at cn
 have cc:=jl ex0 (exN 64) (by decide+kernel) (by decide+kernel)
 rw[show ex0.cmp (exN 64)= -1 by decide+kernel]at cc
 have q:decide ((-1:Int)≤0)=true:=rfl
 have q1:(decide ((-120:Int)≤ -10)&&decide ((-10:Int)≤0))=true:=rfl
 have cwi:=zN (-10) (-120) 0
 rw[q1]at cwi
 refine Con.of_w (rs:=[.tmp 4]) Tryz.func146 rfl Tryz.ntmps146 rfl ?_
 simp(disch:=omega)only[go_sem]
 refine qi (cm) ?_
 simp(disch:=omega)only[go_sem]
 refine qi (cwi) ?_
 simp(disch:=omega)only[go_sem]
 refine qa (cg) ?_
 simp(disch:=omega)only[go_sem]
 refine qa (cn) ?_
 simp(disch:=omega)only[go_sem]
 refine qa (zb 64 (by omega)) ?_
 simp(disch:=omega)only[go_sem]
 refine qz cc (by simp(disch:=omega)only[go_sem,exN]) ?_
 rintro r hs ⟨rfl,rfl,_⟩
 refine⟨by simp[qP],?_⟩
 simp(disch:=omega)only[go_sem,q]
 exact qA
end Go.Ab
namespace Go.Ab
open Go Go.Proofs
theorem jo(cl:Bool)(xs:List Int)(m:Nat)(hl:xs.length≤2^39)(hx:gd xs)(hv:vl xs=(m:Int)):Con Tryz.prog 276 cl [.sl xs.length (qb xs)] [] (aET m):=by
 refine Con.of_aw Tryz.func276 rfl Tryz.ntmps276 (by simp) (by simp) (by simp) (W.sound ?_)
 show @W Tryz.prog 24 ⟨_⟩ ⟨fun x σ=>@qX _ _ _ ⟨_⟩ _ ⟨_⟩ x σ⟩ _ _
 simp(disch:=omega)only[go_sem]
 have hcz:Z7 xs=lim m:=by rw[z8 hx,hv,Int.toNat_natCast]
 refine qj (fun k:Nat=>[(0,.sl xs.length (qb xs)),(2,.pt 40000000 0),(3,.v (.int .i64 k))]) (fun _=>[(40000000,.own 0 [.v (.slice none 0 0)])]) (fun k=>k≤xs.length∧Z7 (xs.take k)=Z7 xs) id xs.length ⟨Nat.le_refl _,by simp⟩
  (Le.lst [] _ _ rfl (by simp(disch:=omega)only[go_sem]) (by simp(disch:=omega)only[go_sem])) ?_
 intro k ⟨hk,hc⟩
 have hkx:∀j,j+1=k→xs.take k=xs.take j++[xs.getD j 0]:=fun j hj=>by rw[←hj];exact jG (by omega)
 simp(disch:=omega)only[go_sem]
 refine qe (fun h1=>?_) (fun h1=>?_)
 ·obtain⟨j,rfl⟩:∃j,k=j+1:=⟨k-1,by omega⟩
  have e1:((j+1:Nat):Int)-1=(j:Nat):=by omega
  rw[hkx j rfl]at hc
  simp(disch:=omega)only[go_sem,h1,e1]
  refine⟨by omega,by omega,qe (fun h2=>?_) (fun h2=>?_)⟩
  ·simp(disch:=omega)only[go_sem,h2,e1]
   rw[h2,Qo]at hc
   exact qc j [] ⟨by omega,hc⟩ (by show j<j+1;omega) rfl (by simp(disch:=omega)only[go_sem];try omega) (by simp(disch:=omega)only[go_sem])
  ·rw[YY _ h2,←hkx j rfl,hcz]at hc
   have hlm:j+1=(lim m).length:=by rw[←hc,List.length_take];omega
   have e0:(((j+1:Nat):Int)-0).toNat=(lim m).length:=by omega
   rw[hlm]at hc
   simp(disch:=omega)only[go_sem,h2,e0,hc]
   refine⟨by omega,by omega,?_⟩
   refine qh [(0,240000000)] [.own 1 (qb (lim m))] [] [.ag [.rf 0 0 (lim m).length]] rfl (by simp(disch:=omega)only[go_sem]) (by simp(disch:=omega)only[go_sem]) (by simp) (by intro _;simp[zk,AV.pu,AV.pu.puL,Ob.pu,qV]) (.inr ⟨[],rfl,by rw[List.append_nil]⟩)
 ·have hlm:k=(lim m).length:=by
   have:k=0:=by omega
   rw[←hcz,←hc,this];rfl
  subst hlm
  have hc:xs.take (lim m).length=lim m:=by
   have:lim m=[]:=List.length_eq_zero_iff.1 (by omega)
   rw[this];simp
  have e0:(((lim m).length:Int)-0).toNat=(lim m).length:=by omega
  simp(disch:=omega)only[go_sem,h1,e0,hc]
  refine⟨by omega,by omega,?_⟩
  refine qh [(0,240000000)] [.own 1 (qb (lim m))] [] [.ag [.rf 0 0 (lim m).length]] rfl (by simp(disch:=omega)only[go_sem]) (by simp(disch:=omega)only[go_sem]) (by simp) (by intro _;simp[zk,AV.pu,AV.pu.puL,Ob.pu,qV]) (.inr ⟨[],rfl,by rw[List.append_nil]⟩)
theorem Y6(cl:Bool)(n:Nat)(hn:n<2^63):Con Tryz.prog 259 cl [.v (.int .i64 n)] [] (aET n):=by
 refine Con.of_aw Tryz.func259 rfl Tryz.ntmps259 (by simp) (by simp) (by simp) (W.sound ?_)
 show @W Tryz.prog 15 ⟨_⟩ ⟨fun x σ=>@qX _ _ _ ⟨_⟩ _ ⟨_⟩ x σ⟩ _ _
 simp(disch:=omega)only[go_sem]
 refine qj (fun x:Nat×List Int=>[(0,.v (.int .i64 x.1)),(2,.pt 2 0),(3,.rf 1 0 x.2.length)]) (fun x=>[(1,.own 1 (qb x.2)),(2,.own 0 [.v (.slice none 0 0)])]) (fun x=>x.1<2^63∧x.2++lim x.1=lim n) (fun x=>x.1) (n,[]) ⟨hn,rfl⟩
  ((Le.ghost 3 1 1 (by simp(disch:=omega)only[go_sem]) (by simp(disch:=omega)only[go_sem])).trans (Le.lst [(2,40000000)] _ _ rfl (by simp(disch:=omega)only[go_sem]) (by simp(disch:=omega)only[go_sem]))) ?_
 rintro⟨k,l⟩ ⟨hk,hl⟩
 dsimp only at hk hl ⊢
 have hlen:l.length≤4:=by
  have h1:=congrArg List.length hl
  have h2:=jB (n:=n) (k:=4) |>.2 (by omega)
  rw[List.length_append]at h1;omega
 simp(disch:=omega)only[go_sem]
 refine qe (fun h1=>?_) (fun h1=>?_)
 ·simp(disch:=omega)only[go_sem,h1]
  have hk0:k≠0:=by omega
  refine⟨by omega,qc (k/65536,l++[(k:Int) % 65536]) [(1,120000000)] ⟨by show k/65536<2^63;omega,?_⟩ (by show k/65536<k;omega) rfl (by simp(disch:=omega)only[go_sem,List.length_append];try omega) (by simp(disch:=omega)only[go_sem])⟩
  rw[jY hk0]at hl
  rw[←hl,List.append_assoc];rfl
 ·simp(disch:=omega)only[go_sem,h1]
  have hk0:k=0:=by omega
  subst hk0
  rw[qm,List.append_nil]at hl
  subst hl
  refine qh [(0,1)] [.own 1 (qb (lim n++[]))] [] [.ag [.rf 0 0 (lim n).length]] rfl (by simp(disch:=omega)only[go_sem]) (by simp(disch:=omega)only[go_sem]) (by simp) (by intro _;simp[zk,AV.pu,AV.pu.puL,Ob.pu,qV]) (.inr ⟨[],rfl,rfl⟩)
end Go.Ab
namespace Go.Ab
open Go Go.Proofs
set_option maxRecDepth 100000 in
theorem aqE(cl:Bool)(a b:Nat)(la:(lim a).length≤2000000)(lb:(lim b).length≤2000000):Con Tryz.prog 258 cl [.ag [.sl (lim (a)).length (qb (lim (a)))],.ag [.sl (lim (b)).length (qb (lim (b)))]] [] (aET (a+b)):=by
 refine Con.of_aw Tryz.func258 rfl Tryz.ntmps258 (by simp) (by simp) (by simp) (W.sound ?_)
 show @W Tryz.prog 61 ⟨_⟩ ⟨fun x σ=>@qX _ _ _ ⟨_⟩ _ ⟨_⟩ x σ⟩ _ _
 simp(disch:=omega)only[go_sem]
 have hA:=q8 a
 have hB:=q8 b
 refine qj (fun x:Nat×List Int×Int=>[(2,.pt 3 0),(3,.pt 4 0),(4,.pt 2 0),(5,.rf 1 0 x.2.1.length),(6,.v (.int .i64 x.2.2)),(7,.v (.int .i64 x.1))])
  (fun x=>[(1,.own 1 (qb x.2.1)),(2,.own 0 [.v (.slice none 0 0)]),(3,.own 0 [.sl (lim (a)).length (qb (lim (a)))]),(4,.own 0 [.sl (lim (b)).length (qb (lim (b)))])])
  (fun x=>x.1≤max (lim a).length (lim b).length+1∧x.2.1.length=x.1∧gd x.2.1∧(0≤x.2.2∧x.2.2≤1)∧vl x.2.1+65536^x.1*x.2.2=vl ((lim a).take x.1)+vl ((lim b).take x.1)∧(max (lim a).length (lim b).length<x.1→x.2.2=0))
  (fun x=>2*(max (lim a).length (lim b).length-x.1)+x.2.2.toNat) (0,[],0) ⟨by simp,rfl,ZZ,by simp,by simp[vl],fun h=>rfl⟩
  ((Le.ghost 5 1 1 (by simp(disch:=omega)only[go_sem]) (by simp(disch:=omega)only[go_sem])).trans (Le.lst [(2,60000000),(3,40000000),(4,50000000)] _ _ rfl (by simp(disch:=omega)only[go_sem]) (by simp(disch:=omega)only[go_sem]))) ?_
 rintro⟨i,out,cy⟩ ⟨hi,hol,hog,hcy,hov,hcz⟩
 dsimp only at hi hol hog hcy hov hcz ⊢
 have hx:=qJ hA i
 have hy:=qJ hB i
 have hxz:¬(i:Int)<(lim a).length→(lim a).getD i 0=0:=fun h=>by rw[List.getD_eq_getElem?_getD,List.getElem?_eq_none (by omega)];rfl
 have hyz:¬(i:Int)<(lim b).length→(lim b).getD i 0=0:=fun h=>by rw[List.getD_eq_getElem?_getD,List.getElem?_eq_none (by omega)];rfl
 have hstep:∀q:Int,q=cy+(lim a).getD i 0+(lim b).getD i 0→vl (out++[q % 65536])+65536^(i+1)*(q/65536)=vl ((lim a).take (i+1))+vl ((lim b).take (i+1)):=by
  intro q hq
  rw[jp,qQ,qQ,hol,Int.pow_succ]
  have e3:q % 65536+65536*(q/65536)=q:=Int.emod_add_mul_ediv q 65536
  generalize (65536:Int)^i=Pi at*
  grind
 have key:∀q:Int,q=cy+(lim a).getD i 0+(lim b).getD i 0→(i:Int)<(lim a).length∨(i:Int)<(lim b).length∨0<cy→
   ((i+1≤max (lim a).length (lim b).length+1∧(out++[q % 65536]).length=i+1∧gd (out++[q % 65536])∧(0≤q/65536∧q/65536≤1)∧vl (out++[q % 65536])+65536^(i+1)*(q/65536)=vl ((lim a).take (i+1))+vl ((lim b).take (i+1))∧(max (lim a).length (lim b).length<i+1→q/65536=0))∧
   2*(max (lim a).length (lim b).length-(i+1))+(q/65536).toNat<2*(max (lim a).length (lim b).length-i)+cy.toNat):=by
  intro q hq hc
  have hle:i≤max (lim a).length (lim b).length:=by
   rcases Nat.lt_or_ge (max (lim a).length (lim b).length) i with h|h
   ·have:=hcz h;omega
   ·exact h
  have hbig:max (lim a).length (lim b).length<i+1→q/65536=0:=fun h=>by
   have:=hxz (by omega)
   have:=hyz (by omega)
   omega
  refine⟨⟨by omega,by simp[hol],qE.2 ⟨hog,zR.2 (by omega)⟩,by omega,hstep q hq,hbig⟩,?_⟩
  by_cases hm:max (lim a).length (lim b).length<i+1
  ·have:=hbig hm;omega
  ·omega
 by_cases h1:(i:Int)<(lim a).length<;>by_cases h2:(i:Int)<(lim b).length
 ·simp(disch:=omega)only[go_sem,h1,h2]
  obtain⟨k1,k2⟩:=key _ rfl (.inl h1)
  refine⟨by omega,by omega,by omega,by omega,by omega,qc (i+1,out++[(cy+(lim a).getD i 0+(lim b).getD i 0) % 65536],(cy+(lim a).getD i 0+(lim b).getD i 0)/65536) [(1,580000000)] k1 k2 rfl (by simp(disch:=omega)only[go_sem,List.length_append];try omega) (by simp(disch:=omega)only[go_sem])⟩
 ·simp(disch:=omega)only[go_sem,h1,h2]
  have e0:cy+(lim a).getD i 0=cy+(lim a).getD i 0+(lim b).getD i 0:=by rw[hyz h2];omega
  obtain⟨k1,k2⟩:=key (cy+(lim a).getD i 0) e0 (.inl h1)
  refine⟨by omega,by omega,by omega,qc (i+1,out++[(cy+(lim a).getD i 0) % 65536],(cy+(lim a).getD i 0)/65536) [(1,580000000)] k1 k2 rfl (by simp(disch:=omega)only[go_sem,List.length_append];try omega) (by simp(disch:=omega)only[go_sem])⟩
 ·simp(disch:=omega)only[go_sem,h1,h2]
  have e0:cy+(lim b).getD i 0=cy+(lim a).getD i 0+(lim b).getD i 0:=by rw[hxz h1];omega
  obtain⟨k1,k2⟩:=key (cy+(lim b).getD i 0) e0 (.inr (.inl h2))
  refine⟨by omega,by omega,by omega,qc (i+1,out++[(cy+(lim b).getD i 0) % 65536],(cy+(lim b).getD i 0)/65536) [(1,580000000)] k1 k2 rfl (by simp(disch:=omega)only[go_sem,List.length_append];try omega) (by simp(disch:=omega)only[go_sem])⟩
 ·by_cases h3:0<cy
  ·simp(disch:=omega)only[go_sem,h1,h2,h3]
   have e0:cy=cy+(lim a).getD i 0+(lim b).getD i 0:=by rw[hxz h1,hyz h2];omega
   obtain⟨k1,k2⟩:=key cy e0 (.inr (.inr h3))
   refine⟨by omega,qc (i+1,out++[cy % 65536],cy/65536) [(1,580000000)] k1 k2 rfl (by simp(disch:=omega)only[go_sem,List.length_append];try omega) (by simp(disch:=omega)only[go_sem])⟩
  ·have hcy0:cy=0:=by omega
   have hov2:vl out=((a+b:Nat):Int):=by
    rw[List.take_of_length_le (by omega),List.take_of_length_le (by omega),q6,q6,hcy0]at hov
    simp at hov;omega
   simp(disch:=omega)only[go_sem,h1,h2,h3]
   refine qz (jo true out (a+b) (by omega) hog hov2) (by simp(disch:=omega)only[go_sem]) ?_
   rintro r hs (⟨h0,rfl,rfl⟩|⟨zs,rfl,rfl⟩)
   ·refine⟨⟨by simp,by simp(disch:=omega)only[go_sem]⟩,?_⟩
    simp(disch:=omega)only[go_sem]
    refine qh [] [] [] [.ag [.v (.slice none 0 0)]] rfl (by simp(disch:=omega)only[go_sem]) (by simp(disch:=omega)only[go_sem]) (by simp) (by intro _;simp[zk,AV.pu,AV.pu.puL,Ob.pu,qV]) (.inl ⟨h0,rfl,rfl⟩)
   ·refine⟨⟨by simp,by simp(disch:=omega)only[go_sem]⟩,?_⟩
    simp(disch:=omega)only[go_sem]
    refine qh [(0,620000000)] [.own 1 (qb (lim (a+b)++zs))] [] [.ag [.rf 0 0 (lim (a+b)).length]] rfl (by simp(disch:=omega)only[go_sem]) (by simp(disch:=omega)only[go_sem]) (by simp) (by intro _;simp[zk,AV.pu,AV.pu.puL,Ob.pu,qV]) (.inr ⟨zs,rfl,rfl⟩)
end Go.Ab
namespace Go.Ab
open Go Go.Proofs
set_option maxRecDepth 100000 in
theorem ajS(cl:Bool)(A:List Int)(hA:gd A)(b:Nat)(lA:A.length≤1000000)(lB:(lim b).length≤1000000)(m:Nat)(hm:vl A*(b:Int)=(m:Int)):
  Con Tryz.prog 273 cl [.ag [.sl A.length (qb A)],.ag [.sl (lim (b)).length (qb (lim (b)))]] [] (aET m):=by
 refine Con.of_aw Tryz.func273 rfl Tryz.ntmps273 (by simp) (by simp) (by simp) (W.sound ?_)
 show @W Tryz.prog 80 ⟨_⟩ ⟨fun x σ=>@qX _ _ _ ⟨_⟩ _ ⟨_⟩ x σ⟩ _ _
 have hvb:=q6 b
 have hB:=q8 b
 generalize lim b=B at*
 simp(disch:=omega)only[go_sem]
 refine⟨by omega,?_⟩
 refine qj (fun x:Nat×List Int=>[(2,.pt 0 0),(3,.pt 1 0),(4,.pt 2 0),(5,.rf 3 0 (A.length+B.length)),(6,.v (.int .i64 x.1))])
  (fun x=>[(0,.own 0 [.sl A.length (qb A)]),(1,.own 0 [.sl B.length (qb B)]),(2,.own 0 [.v (.slice none 0 0)]),(3,.own 1 (qb x.2))])
  (fun x=>x.1≤A.length∧x.2.length=A.length+B.length∧gd x.2∧vl x.2=vl (A.take x.1)*vl B∧∀j,x.1+B.length≤j→x.2.getD j 0=0)
  (fun x=>A.length-x.1) (0,List.replicate (A.length+B.length) 0) ⟨by simp,by simp,zq _,by simp[zP,vl],fun j _=>by
   rw[List.getD_eq_getElem?_getD,List.getElem?_replicate];split<;>rfl⟩
  (Le.lst [(0,40000000),(1,50000000),(2,60000000),(3,190000000)] _ _ rfl (by simp(disch:=omega)only[go_sem];try omega) (by simp(disch:=omega)only[go_sem,show((A.length:Int)+(B.length:Int)).toNat=A.length+B.length by omega])) ?_
 rintro⟨i,out⟩ ⟨hi,hol,hog,hov,hoz⟩
 dsimp only at hi hol hog hov hoz ⊢
 simp(disch:=omega)only[go_sem]
 refine qe (fun h1=>?_) (fun h1=>?_)
 ·have hx:=qJ hA i
  simp(disch:=omega)only[go_sem,h1]
  refine qj (fun x:Nat×List Int×Int=>[(2,.pt 0 0),(3,.pt 1 0),(4,.pt 2 0),(5,.rf 3 0 (A.length+B.length)),(6,.v (.int .i64 i)),(7,.v (.int .i64 x.2.2)),(8,.v (.int .i64 x.1))])
   (fun x=>[(0,.own 0 [.sl A.length (qb A)]),(1,.own 0 [.sl B.length (qb B)]),(2,.own 0 [.v (.slice none 0 0)]),(3,.own 1 (qb x.2.1))])
   (fun x=>x.1≤B.length∧x.2.1.length=A.length+B.length∧gd x.2.1∧(0≤x.2.2∧x.2.2<65536)∧vl x.2.1+65536^(i+x.1)*x.2.2=vl out+65536^i*(A.getD i 0*vl (B.take x.1))∧∀j,i+B.length≤j→x.2.1.getD j 0=0)
   (fun x=>B.length-x.1) (0,out,0) ⟨by simp,hol,hog,by simp,by simp[vl],hoz⟩
   (Le.lst [] _ _ rfl (by simp(disch:=omega)only[go_sem];try omega) (by simp(disch:=omega)only[go_sem])) ?_
  rintro⟨j,o2,cy⟩ ⟨hj,hol2,hog2,hcy,hov2,hoz2⟩
  dsimp only at hj hol2 hog2 hcy hov2 hoz2 ⊢
  simp(disch:=omega)only[go_sem]
  refine qe (fun h2=>?_) (fun h2=>?_)
  ·have hy:=qJ hB j
   have ho:=qJ hog2 (i+j)
   have hxy:=apo hx hy
   have e1:((i:Int)+(j:Int)).toNat=i+j:=by omega
   simp(disch:=omega)only[go_sem,h2]
   refine qp rfl [⟨0,[],[]⟩,⟨1,[],[]⟩,⟨2,[],[]⟩,⟨3,[],[]⟩,⟨4,[],[]⟩,⟨5,[],[]⟩,⟨6,[5],[]⟩,⟨7,[5],[]⟩,⟨8,[5,7],[]⟩,⟨9,[5],[]⟩,⟨10,[5],[]⟩,⟨11,[5,7,10],[]⟩,⟨12,[5,7,10],[]⟩,⟨13,[5,7,10,12],[]⟩,⟨14,[5,7,10],[]⟩,⟨15,[5,7,10],[]⟩,⟨16,[5],[]⟩,⟨17,[],[]⟩,⟨18,[5,7,10,12,15],[]⟩,⟨19,[],[]⟩,⟨20,[],[]⟩] (by kernel_rfl) ?_
   simp(disch:=omega)only[go_sem,e1]
   generalize hq:o2.getD (i+j) 0+A.getD i 0*B.getD j 0+cy=q
   refine⟨by omega,by omega,by omega,by omega,by omega,by omega,by omega,by omega,qc (j+1,o2.set (i+j) (q % 65536),q/65536) [] ⟨by show j+1≤_;omega,by simp[hol2],yP hog2 (by omega),by show 0≤q/65536∧q/65536<65536;omega,?_,fun k hk=>?_⟩
    (by show B.length-(j+1)<B.length-j;omega) rfl (by simp(disch:=omega)only[go_sem];try omega) (by simp(disch:=omega)only[go_sem])⟩
   ·show vl (o2.set (i+j) (q % 65536))+65536^(i+(j+1))*(q/65536)=vl out+65536^i*(A.getD i 0*vl (B.take (j+1)))
    rw[QT (by omega),jb (by omega),←Nat.add_assoc,Int.pow_succ]
    have e2:(65536:Int)^(i+j)=65536^i*65536^j:=Int.pow_add _ _ _
    have e3:q % 65536+65536*(q/65536)=q:=Int.emod_add_mul_ediv q 65536
    rw[e2]at hov2 ⊢
    generalize (65536:Int)^i=Pi at*
    generalize (65536:Int)^j=Pj at*
    grind
   ·show(o2.set (i+j) (q % 65536)).getD k 0=0
    rw[List.getD_eq_getElem?_getD,List.getElem?_set_ne (by omega),←List.getD_eq_getElem?_getD]
    exact hoz2 k hk
  ·simp(disch:=omega)only[go_sem,h2]
   have e1:((i:Int)+(B.length:Int)).toNat=i+B.length:=by omega
   have hjB:j=B.length:=by omega
   subst hjB
   rw[List.take_length]at hov2
   have hz:=hoz2 (i+B.length) (Nat.le_refl _)
   refine qp rfl [⟨0,[],[]⟩,⟨1,[],[]⟩,⟨2,[],[]⟩,⟨3,[],[]⟩,⟨4,[],[]⟩,⟨5,[],[]⟩,⟨6,[3],[]⟩,⟨7,[3],[]⟩,⟨8,[3],[]⟩,⟨9,[3],[]⟩,⟨10,[3],[]⟩,⟨11,[3],[]⟩,⟨12,[3],[]⟩,⟨13,[3],[]⟩,⟨14,[3,9,13],[]⟩,⟨15,[3],[]⟩,⟨16,[],[]⟩,⟨17,[],[]⟩] (by kernel_rfl) ?_
   simp(disch:=omega)only[go_sem,e1,hz]
   have e0:(0:Int)+cy=cy:=by omega
   refine⟨by omega,by omega,by omega,by omega,qc (i+1,o2.set (i+B.length) cy) [] ⟨by show i+1≤_;omega,by simp[hol2],yP hog2 hcy,?_,fun k hk=>?_⟩ (by show A.length-(i+1)<A.length-i;omega) rfl (by simp(disch:=omega)only[go_sem];try omega) (by simp(disch:=omega)only[go_sem,e0])⟩
   ·show vl (o2.set (i+B.length) cy)=vl (A.take (i+1))*vl B
    rw[QT (by omega),hz,jb (by omega)]
    generalize (65536:Int)^i=Pi at*
    grind
   ·show(o2.set (i+B.length) cy).getD k 0=0
    rw[List.getD_eq_getElem?_getD,List.getElem?_set_ne (by show i+B.length≠k;omega),←List.getD_eq_getElem?_getD]
    exact hoz2 k (by omega)
 ·simp(disch:=omega)only[go_sem,h1]
  have hiA:i=A.length:=by omega
  subst hiA
  rw[List.take_length,hvb,hm]at hov
  rw[←hol]
  refine qz (jo true (out) (m) (by omega) (hog) (hov)) (by simp(disch:=omega)only[go_sem]) ?_
  rintro r hs (⟨h0,rfl,rfl⟩|⟨zs,rfl,rfl⟩)
  ·refine⟨⟨by simp,by simp(disch:=omega)only[go_sem]⟩,?_⟩
   simp(disch:=omega)only[go_sem]
   refine qh [] [] [] [.ag [.v (.slice none 0 0)]] rfl (by simp(disch:=omega)only[go_sem]) (by simp(disch:=omega)only[go_sem]) (by simp) (by intro _;simp[zk,AV.pu,AV.pu.puL,Ob.pu,qV]) (.inl ⟨h0,rfl,rfl⟩)
  ·refine⟨⟨by simp,by simp(disch:=omega)only[go_sem]⟩,?_⟩
   simp(disch:=omega)only[go_sem]
   refine qh [(0,810000000)] [.own 1 (qb (lim (m)++zs))] [] [.ag [.rf 0 0 (lim (m)).length]] rfl (by simp(disch:=omega)only[go_sem]) (by simp(disch:=omega)only[go_sem]) (by simp) (by intro _;simp[zk,AV.pu,AV.pu.puL,Ob.pu,qV]) (.inr ⟨zs,rfl,rfl⟩)
end Go.Ab
namespace Go.Ab
open Go Go.Proofs
def aOW(m:Nat)(r0:Int):AV→List Ob→List Ob→Prop:=fun r hs bs=>
 (m=0∧r=.tu [.ag [.v (.slice none 0 0)],.v (.int .i64 r0)]∧hs=[])∨∃zs,r=.tu [.ag [.rf 0 0 (lim m).length],.v (.int .i64 r0)]∧hs=[.own 1 (qb (lim m++zs))]
theorem Con.natF2{P:Program}{f:FuncId}{args:List AV}{m:Nat}{r0:Int}(h:Con P f false args [] (aOW m r0)):Con P f false args [] (isA (.tu [.ag [.sl (lim (m)).length (qb (lim (m)))],.v (.int .i64 r0)])):=
 Con.frzA <| h.mono fun r hs bs h=>by
  rcases h with⟨rfl,rfl,rfl⟩|⟨zs,rfl,rfl⟩
  ·show qF _ 6 _=_
   rw[qm];rfl
  ·show qF _ 6 _=_
   rw[Ys,List.map_cons,List.map_cons,List.map_nil,adG,List.map_cons,List.map_nil,jT (k:=2) (l:=lim m) (zs:=zs) zl rfl]
   rfl
theorem aaC(cl:Bool)(A:List Int)(d:Nat)(hA:gd A)(lA:A.length≤1000000)(hd:0<d)(hd2:d<65536)(m:Nat)(hm:vl A/(d:Int)=(m:Int)):
  Con Tryz.prog 279 cl [.ag [.sl A.length (qb A)],.v (.int .i64 d)] [] (aOW m (vl A % d)):=by
 refine Con.of_aw Tryz.func279 rfl Tryz.ntmps279 (by simp) (by simp) (by simp) (W.sound ?_)
 show @W Tryz.prog 42 ⟨_⟩ ⟨fun x σ=>@qX _ _ _ ⟨_⟩ _ ⟨_⟩ x σ⟩ _ _
 simp(disch:=omega)only[go_sem]
 refine⟨by omega,?_⟩
 refine qj (fun x:Nat×List Int×Int=>[(1,.v (.int .i64 d)),(2,.pt 0 0),(4,.pt 1 0),(6,.rf 2 0 A.length),(7,.v (.int .i64 x.2.2)),(8,.v (.int .i64 ((x.1:Int)-1)))])
  (fun x=>[(0,.own 0 [.sl A.length (qb A)]),(1,.own 0 [.v (.slice none 0 0)]),(2,.own 1 (qb x.2.1))])
  (fun x=>x.1≤A.length∧x.2.1.length=A.length∧gd x.2.1∧x.2.2=vl (A.drop x.1) % d∧vl (x.2.1.drop x.1)=vl (A.drop x.1)/d)
  (fun x=>x.1) (A.length,List.replicate A.length 0,0) ⟨Nat.le_refl _,by simp,zq _,by simp[vl],by simp[vl]⟩
  (Le.lst [(0,40000000),(1,60000000),(2,150000000)] _ _ rfl (by simp(disch:=omega)only[go_sem,List.length_replicate];try omega) (by simp(disch:=omega)only[go_sem])) ?_
 rintro⟨k,out,rest⟩ ⟨hk,hol,hog,hr,hov⟩
 dsimp only at hk hol hog hr hov ⊢
 have hr0:0≤rest∧rest<d:=by rw[hr];exact⟨Int.emod_nonneg _ (by omega),Int.emod_lt_of_pos _ (by omega)⟩
 simp(disch:=omega)only[go_sem]
 refine qe (fun h1=>?_) (fun h1=>?_)
 ·obtain⟨i,rfl⟩:∃i,k=i+1:=⟨k-1,by omega⟩
  have ei:((i+1:Nat):Int)-1=(i:Nat):=by omega
  have hx:=qJ hA i
  have hq6:0≤(rest*65536+A.getD i 0)/d∧(rest*65536+A.getD i 0)/d<65536:=by
   refine⟨Int.ediv_nonneg (by omega) (by omega),Int.ediv_lt_of_lt_mul (by omega) ?_⟩
   have:rest+1≤(d:Int):=by omega
   have:=Int.mul_le_mul_of_nonneg_left this (show(0:Int)≤65536 by omega)
   omega
  simp(disch:=omega)only[go_sem,h1,ei]
  generalize hq:rest*65536+A.getD i 0=q at*
  refine⟨by omega,by omega,by omega,by omega,by omega,by omega,qc (i,out.set i (q/d),q % d) [] ⟨by show i≤_;omega,by simp[hol],yP hog hq6,?_,?_⟩ (by show i<i+1;omega) rfl (by simp(disch:=omega)only[go_sem];try omega) (by simp(disch:=omega)only[go_sem])⟩
  ·show q % d=vl (A.drop i) % d
   rw[zE (l:=A) (i:=i) (by omega),←hq,hr]
   have h3:=Int.emod_add_mul_ediv (vl (A.drop (i+1))) d
   rw[show A.getD i 0+65536*vl (A.drop (i+1))=vl (A.drop (i+1)) % d*65536+A.getD i 0+d*(65536*(vl (A.drop (i+1))/d)) by grind,Int.add_mul_emod_self_left]
  ·show vl ((out.set i (q/d)).drop i)=vl (A.drop i)/d
   rw[drop_set (by omega),vl,hov,zE (l:=A) (i:=i) (by omega),←hq,hr]
   have h3:=Int.emod_add_mul_ediv (vl (A.drop (i+1))) d
   rw[show A.getD i 0+65536*vl (A.drop (i+1))=vl (A.drop (i+1)) % d*65536+A.getD i 0+d*(65536*(vl (A.drop (i+1))/d)) by grind,Int.add_mul_ediv_left _ _ (by omega)]
 ·simp(disch:=omega)only[go_sem,h1]
  have:k=0:=by omega
  subst this
  rw[List.drop_zero,List.drop_zero,hm]at hov
  rw[List.drop_zero]at hr
  rw[←hol]
  refine qz (jo true out m (by omega) hog hov) (by simp(disch:=omega)only[go_sem]) ?_
  rintro r hs (⟨h0,rfl,rfl⟩|⟨zs,rfl,rfl⟩)
  ·refine⟨⟨by simp,by simp(disch:=omega)only[go_sem]⟩,?_⟩
   simp(disch:=omega)only[go_sem]
   rw[hr]
   refine qh [] [] [] [.ag [.v (.slice none 0 0)],.v (.int .i64 (vl A % d))] rfl (by simp(disch:=omega)only[go_sem]) (by simp(disch:=omega)only[go_sem]) (by simp) (by intro _;simp[zk,AV.pu,AV.pu.puL,Ob.pu,qV]) (.inl ⟨h0,rfl,rfl⟩)
  ·refine⟨⟨by simp,by simp(disch:=omega)only[go_sem]⟩,?_⟩
   simp(disch:=omega)only[go_sem]
   rw[hr]
   refine qh [(0,420000000)] [.own 1 (qb (lim m++zs))] [] [.ag [.rf 0 0 (lim m).length],.v (.int .i64 (vl A % d))] rfl (by simp(disch:=omega)only[go_sem]) (by simp(disch:=omega)only[go_sem]) (by simp) (by intro _;simp[zk,AV.pu,AV.pu.puL,Ob.pu,qV]) (.inr ⟨zs,rfl,rfl⟩)
/-! ### Shifts-/
theorem aoN{k:Nat}(hk:k<16):IntKind.i64.wrap (1*2^(min ((k:Int)).toNat 64))=((2^k:Nat):Int):=by
 have e:min ((k:Int)).toNat 64=k:=by omega
 rw[e,Int.one_mul]
 have h:=yg k hk
 rw[akr (by omega) (by omega),Int.natCast_pow];rfl
theorem aqD(cl:Bool)(a k:Nat)(la:(lim a).length≤400000)(hk:k≤5000000):Con Tryz.prog 260 cl [.ag [.sl (lim (a)).length (qb (lim (a)))],.v (.int .i64 k)] [] (aET (a*2^k)):=by
 refine Con.of_aw Tryz.func260 rfl Tryz.ntmps260 (by simp) (by simp) (by simp) (W.sound ?_)
 show @W Tryz.prog 22 ⟨_⟩ ⟨fun x σ=>@qX _ _ _ ⟨_⟩ _ ⟨_⟩ x σ⟩ _ _
 have hz:((lim a).length:Int)=0→a=0:=fun h=>qH.1 (List.length_eq_zero_iff.1 (by omega))
 have hvA:=q6 a
 have gA:=q8 a
 generalize hLA:lim a=A at*
 simp(disch:=omega)only[go_sem]
 refine qe (fun h1=>?_) (fun h1=>?_)
 ·simp(disch:=omega)only[go_sem,h1]
  have h0:=hz h1
  subst h0
  refine qh [] [] [] [.ag [.v (.slice none 0 0)]] rfl (by simp(disch:=omega)only[go_sem]) (by simp(disch:=omega)only[go_sem]) (by simp) (by intro _;simp[zk,AV.pu,AV.pu.puL,Ob.pu,qV]) (.inl ⟨by simp,rfl,rfl⟩)
 ·simp(disch:=omega)only[go_sem,h1]
  refine qp rfl [⟨0,[],[]⟩,⟨1,[],[]⟩,⟨3,[],[]⟩,⟨4,[],[]⟩,⟨7,[4],[]⟩,⟨8,[4],[]⟩,⟨9,[4],[]⟩,⟨2,[4],[]⟩,⟨5,[],[]⟩,⟨6,[],[]⟩,⟨10,[],[]⟩,⟨11,[],[]⟩,⟨12,[],[]⟩] (by kernel_rfl) ?_
  have e16:((k:Int)/16).toNat=k/16:=by omega
  have e17:(k:Int) % 16=((k % 16:Nat):Int):=by omega
  have es:IntKind.i64.wrap (1*2^(min ((k:Int) % 16).toNat 64))=((2^(k % 16):Nat):Int):=by rw[e17];exact aoN (by omega)
  have hp15:2^(k % 16)≤2^15:=Nat.pow_le_pow_right (by omega) (by omega)
  have ecut:(List.replicate (k/16) (0:Int)).take (k/16)=List.replicate (k/16) 0:=List.take_of_length_le (by simp)
  simp(disch:=omega)only[go_sem,e16,ecut,es]
  refine⟨by omega,by omega,by simp;omega,?_⟩
  refine qa ((Y6 false (2^(k % 16)) (by omega)).natF) ?_
  simp(disch:=omega)only[go_sem]
  have hvA2:vl (List.replicate (k/16) 0++A)*((2^(k % 16):Nat):Int)=((a*2^k:Nat):Int):=by
   rw[y3,zP,hvA,List.length_replicate]
   have h2:a*2^k=65536^(k/16)*a*2^(k % 16):=by
    have:2^k=65536^(k/16)*2^(k % 16):=by rw[ZK,←Nat.pow_add,Nat.div_add_mod]
    rw[this];grind
   rw[h2,Int.natCast_mul,Int.natCast_mul,Int.natCast_pow]
   simp
  have gA2:gd (List.replicate (k/16) 0++A):=qE.2 ⟨zq _,gA⟩
  have lA2:(List.replicate (k/16) (0:Int)++A).length=k/16+A.length:=by simp
  have et:(List.replicate (k/16) (0:Int)++A).take (k/16+A.length)=List.replicate (k/16) 0++A:=List.take_of_length_le (by simp)
  have l2s:(lim (2^(k % 16))).length≤1000000:=by
   have:=qy (m:=2^(k % 16)) (B:=16) (zy.2 (by omega));omega
  refine qz (ajS true (List.replicate (k/16) 0++A) gA2 (2^(k % 16)) (by omega) l2s (a*2^k) hvA2) (by simp(disch:=omega)only[go_sem,lA2,et]) ?_
  rintro r hs (⟨h0,rfl,rfl⟩|⟨zs,rfl,rfl⟩)
  ·refine⟨⟨by simp,by simp(disch:=omega)only[go_sem]⟩,?_⟩
   simp(disch:=omega)only[go_sem]
   refine qh [] [] [] [.ag [.v (.slice none 0 0)]] rfl (by simp(disch:=omega)only[go_sem]) (by simp(disch:=omega)only[go_sem]) (by simp) (by intro _;simp[zk,AV.pu,AV.pu.puL,Ob.pu,qV]) (.inl ⟨h0,rfl,rfl⟩)
  ·refine⟨⟨by simp,by simp(disch:=omega)only[go_sem]⟩,?_⟩
   simp(disch:=omega)only[go_sem]
   refine qh [(0,230000000)] [.own 1 (qb (lim (a*2^k)++zs))] [] [.ag [.rf 0 0 (lim (a*2^k)).length]] rfl (by simp(disch:=omega)only[go_sem]) (by simp(disch:=omega)only[go_sem]) (by simp) (by intro _;simp[zk,AV.pu,AV.pu.puL,Ob.pu,qV]) (.inr ⟨zs,rfl,rfl⟩)
end Go.Ab
namespace Go.Ab
open Go Go.Proofs
theorem aqC(a k:Nat)(la:(lim a).length≤1000000)(hk:k≤100000000):Con Tryz.prog 257 false [.ag [.sl (lim (a)).length (qb (lim (a)))],.v (.int .i64 k)] [] (isA (.ag [.sl (lim (a/2^k)).length (qb (lim (a/2^k)))])):=by
 refine Con.frzA ?_
 refine Con.of_aw Tryz.func257 rfl Tryz.ntmps257 (by simp) (by simp) (by simp) (W.sound ?_)
 show @W Tryz.prog 28 ⟨_⟩ ⟨fun x σ=>@qX _ _ _ ⟨_⟩ _ ⟨_⟩ x σ⟩ _ _
 simp(disch:=omega)only[go_sem]
 refine qe (fun h1=>?_) (fun h1=>?_)
 ·simp(disch:=omega)only[go_sem,h1]
  have h0:a/2^k=0:=by
   refine Nat.div_eq_of_lt (Nat.lt_of_lt_of_le (ZQ a) ?_)
   rw[ZK];exact Nat.pow_le_pow_right (by omega) (by omega)
  rw[h0,qm]
  exact qk
 ·simp(disch:=omega)only[go_sem,h1]
  refine qp rfl [⟨0,[],[]⟩,⟨1,[],[]⟩,⟨2,[1],[]⟩,⟨3,[1],[]⟩,⟨4,[],[]⟩,⟨5,[],[]⟩,⟨6,[1,4],[]⟩,⟨7,[1,4],[]⟩,⟨8,[1,4],[]⟩,⟨13,[1,4],[]⟩,⟨9,[],[70000000]⟩,⟨10,[],[70000000]⟩,⟨11,[],[70000000]⟩,⟨12,[],[70000000]⟩,⟨14,[],[]⟩,⟨15,[],[]⟩] (by kernel_rfl) ?_
  have e16:((k:Int)/16).toNat=k/16:=by omega
  have e17:(k:Int) % 16=((k % 16:Nat):Int):=by omega
  have e18:(((lim a).length:Int)-(k:Int)/16).toNat=((lim a).drop (k/16)).length:=by simp;omega
  have es:IntKind.i64.wrap (1*2^(min ((k:Int) % 16).toNat 64))=((2^(k % 16):Nat):Int):=by rw[e17];exact aoN (by omega)
  have hp15:2^(k % 16)≤2^15:=Nat.pow_le_pow_right (by omega) (by omega)
  have hp0:0<2^(k % 16):=Nat.pow_pos (by omega)
  have hvD:=aeF (q8 a) (i:=k/16) (by omega)
  have gD:=ym (q8 a) (k/16)
  have hlD:((lim a).drop (k/16)).length≤1000000:=by simp;omega
  have hm:vl ((lim a).drop (k/16))/((2^(k % 16):Nat):Int)=((a/2^k:Nat):Int):=by
   rw[←hvD,q6]
   have:a/2^k=a/65536^(k/16)/2^(k % 16):=by rw[Nat.div_div_eq_div_mul,ZK,←Nat.pow_add,Nat.div_add_mod]
   rw[this,Int.natCast_ediv,Int.natCast_ediv,Int.natCast_pow 65536];rfl
  have et:((lim a).drop (k/16)).take ((lim a).drop (k/16)).length=(lim a).drop (k/16):=List.take_length
  simp(disch:=omega)only[go_sem,e16,e18,et,es]
  generalize (lim a).drop (k/16)=D at*
  refine⟨by omega,by omega,?_⟩
  refine qa ((aaC false D (2^(k % 16)) gD hlD hp0 (by omega) (a/2^k) hm).natF2) ?_
  simp(disch:=omega)only[go_sem]
  exact qk
theorem aaD(m:Nat)(i:Int)(hl:(lim m).length≤2^40)(hi:0≤i)(hi2:i<2^62):Con Tryz.prog 197 true [.ag [.sl (lim (m)).length (qb (lim (m)))],.v (.int .i64 i)] [] (isA (.v (.int .i64 ((m/2^i.toNat % 2:Nat):Int)))):=by
 refine Con.of_w (rs:=[.tmp 4]) Tryz.func197 rfl Tryz.ntmps197 rfl ?_
 obtain⟨k,rfl⟩:=Int.eq_ofNat_of_zero_le hi
 rw[Int.toNat_natCast]
 have h0:¬((k:Int)<0):=by omega
 have e16:((k:Int)/16).toNat=k/16:=by omega
 have em:min ((k:Int) % 16).toNat 64=k % 16:=by omega
 have hb:=aq7 m k
 simp(disch:=omega)only[go_sem,h0]
 refine qe (fun h1=>?_) (fun h1=>?_)
 ·simp(disch:=omega)only[go_sem,h1]
  have:m/2^k % 2=0:=by
   rw[←hb]
   have h2:=zT m (k/16)
   rw[List.getD_eq_getElem?_getD,List.getElem?_eq_none (by omega)]at h2
   have h3:m/65536^(k/16) % 65536=0:=by simp only[Option.getD_none]at h2;omega
   rw[h3];simp
  rw[this]
  exact qA
 ·have hx:=qJ (q8 m) (k/16)
  have hp:(0:Int)<2^(k % 16):=Int.pow_pos (by omega)
  have efd:∀x:Int,x.fdiv (2^(k % 16))=x/2^(k % 16):=fun x=>Int.fdiv_eq_ediv_of_nonneg _ (Int.le_of_lt hp)
  have hq:0≤(lim m).getD (k/16) 0/2^(k % 16)∧(lim m).getD (k/16) 0/2^(k % 16)<65536:=by
   refine⟨Int.ediv_nonneg hx.1 (Int.le_of_lt hp),Int.lt_of_le_of_lt (Int.ediv_le_self _ hx.1) hx.2⟩
  have hr:(lim m).getD (k/16) 0/2^(k % 16) % 2=((m/2^k % 2:Nat):Int):=by
   rw[←hb,zT]
   generalize m/65536^(k/16) % 65536=x
   rw[Int.natCast_emod,Int.natCast_ediv,Int.natCast_pow];rfl
  simp(disch:=omega)only[go_sem,h1,e16,em,efd,hr]
  refine⟨by omega,by omega,by omega,?_⟩
  exact qA
theorem arG{m i:Nat}(hz:∀j,j<i→m/2^j % 2=0)(h1:m/2^i % 2=1):tz m=i:=by
 have key:∀k,k≤i→2^k*(m/2^k)=m:=by
  intro k
  induction k with
  |zero=>intro _;simp
  |succ k ih=>
   intro hk
   have h2:=ih (by omega)
   have h3:=hz k (by omega)
   have h4:m/2^(k+1)=m/2^k/2:=by rw[Nat.pow_succ,Nat.div_div_eq_div_mul]
   rw[h4,Nat.pow_succ,Nat.mul_assoc,show 2*(m/2^k/2)=m/2^k by omega];exact h2
 refine Zq (a:=m/2^i/2) ?_
 have:=key i (Nat.le_refl _)
 rw[show 2*(m/2^i/2)+1=m/2^i by omega];exact this.symm
theorem aef(m:Nat)(hl:(lim m).length≤2^40):Con Tryz.prog 256 true [.ag [.sl (lim (m)).length (qb (lim (m)))]] [] (isA (.v (.int .i64 (tz m)))):=by
 refine Con.of_w (rs:=[.tmp 2]) Tryz.func256 rfl Tryz.ntmps256 rfl ?_
 simp(disch:=omega)only[go_sem]
 refine qj (fun i:Nat=>[(1,.pt 0 0),(3,.v (.int .i64 i))]) (fun _=>[(0,.own 0 [.sl (lim (m)).length (qb (lim (m)))])]) (fun i=>i≤16*(lim m).length∧∀j,j<i→m/2^j % 2=0) (fun i=>16*(lim m).length-i) 0 ⟨by omega,fun j hj=>by omega⟩ (Le.lst [(0,30000000)] _ _ rfl (by simp(disch:=omega)only[go_sem];try omega) (by simp(disch:=omega)only[go_sem])) ?_
 rintro i ⟨hi,hz⟩
 simp(disch:=omega)only[go_sem]
 refine qe (fun h1=>?_) (fun h1=>?_)
 ·simp(disch:=omega)only[go_sem,h1]
  refine qi (aaD m i hl (by omega) (by omega)) ?_
  simp(disch:=omega)only[go_sem]
  refine qe (fun h2=>?_) (fun h2=>?_)
  ·simp(disch:=omega)only[go_sem,h2]
   have:=arG hz (by omega)
   rw[this]
   exact qA
  ·simp(disch:=omega)only[go_sem,h2]
   refine qc (i+1) [] ⟨by omega,fun j hj=>?_⟩ (by show 16*(lim m).length-(i+1)<16*(lim m).length-i;omega) rfl (by simp(disch:=omega)only[go_sem];try omega) (by simp(disch:=omega)only[go_sem])
   rcases(by omega:j<i∨j=i)with h|h
   ·exact hz j h
   ·subst h;omega
 ·simp(disch:=omega)only[go_sem,h1]
  have hm:m=0:=by
   have h3:=afn (m:=m)
   rcases Nat.eq_zero_or_pos m with h|h
   ·exact h
   ·have h4:=y4 (n:=m) (by omega)
    have h5:=(Qf (n:=m) (by omega)).1
    have:=hz (tz m) (by omega)
    omega
  subst hm
  rw[akw]
  exact qA
end Go.Ab
namespace Go.Ab
open Go Go.Proofs
theorem aO4(m:Nat):decide ((0:Int)<((lim m).length:Int))=decide (m≠0):=by
 rw[decide_eq_decide]
 exact⟨fun h e=>by rw[e,qm]at h;simp at h,fun h=>by have:=yO h;omega⟩
theorem Je(m:Nat)(hl:(lim m).length≤2^39):Con Tryz.prog 276 false [.sl (lim (m)).length (qb (lim (m)))] [] (isA (.ag [.sl (lim (m)).length (qb (lim (m)))])):=(jo false (lim m) m hl (q8 m) (q6 m)).natF
theorem Jd(n:Nat)(hn:n<2^63):Con Tryz.prog 259 false [.v (.int .i64 n)] [] (isA (.ag [.sl (lim (n)).length (qb (lim (n)))])):=(Y6 false n hn).natF
theorem Yd(a b:Nat)(la:(lim a).length≤2000000)(lb:(lim b).length≤2000000):Con Tryz.prog 258 false [.ag [.sl (lim (a)).length (qb (lim (a)))],.ag [.sl (lim (b)).length (qb (lim (b)))]] [] (isA (.ag [.sl (lim (a+b)).length (qb (lim (a+b)))])):=(aqE false a b la lb).natF
theorem Yb(a k:Nat)(la:(lim a).length≤400000)(hk:k≤5000000):Con Tryz.prog 260 false [.ag [.sl (lim (a)).length (qb (lim (a)))],.v (.int .i64 k)] [] (isA (.ag [.sl (lim (a*2^k)).length (qb (lim (a*2^k)))])):=(aqD false a k la hk).natF
theorem zv(s:Bool)(m:Nat)(hl:(lim m).length≤2^39):Con Tryz.prog 246 false [.v (.bool s),.ag [.sl (lim (m)).length (qb (lim (m)))]] [] (isA (.ag [.v (.bool (s&&decide (m≠0))),.sl (lim (m)).length (qb (lim (m)))])):=by
 refine Con.frzA ?_
 refine Con.of_w (rs:=[.cell 4 38]) Tryz.func246 rfl Tryz.ntmps246 rfl ?_
 simp(disch:=omega)only[go_sem]
 refine qp rfl [⟨0,[],[]⟩,⟨1,[],[]⟩,⟨2,[],[]⟩,⟨3,[],[]⟩,⟨4,[],[]⟩,⟨5,[],[]⟩,⟨6,[],[]⟩,⟨7,[3],[]⟩,⟨8,[3],[]⟩,⟨9,[3],[]⟩,⟨10,[],[]⟩,⟨11,[],[]⟩] (by kernel_rfl) ?_
 simp(disch:=omega)only[go_sem]
 refine yk (fun h1=>?_) (fun h1=>?_)
 ·simp(disch:=omega)only[go_sem,h1,aO4]
  refine qa (Je m hl) ?_
  simp(disch:=omega)only[go_sem]
  exact qk (hp:=by simp(disch:=omega)only[go_sem,h1,Bool.true_and])
 ·simp(disch:=omega)only[go_sem,h1]
  refine qa (Je m hl) ?_
  simp(disch:=omega)only[go_sem]
  exact qk (hp:=by simp(disch:=omega)only[go_sem,h1,Bool.false_and])
theorem Y5(n:Int)(h: -9223372036854775808≤n∧n<9223372036854775808):Con Tryz.prog 205 false [.v (.int .i64 n)] [] (isA (.ag [.v (.bool (decide (n<0))),.sl (lim (n.natAbs)).length (qb (lim (n.natAbs)))])):=by
 refine Con.frzA ?_
 refine Con.of_aw Tryz.func205 rfl Tryz.ntmps205 (by simp) (by simp) (by simp) (W.sound ?_)
 show @W Tryz.prog 15 ⟨_⟩ ⟨fun x σ=>@qX _ _ _ ⟨_⟩ _ ⟨_⟩ x σ⟩ _ _
 simp(disch:=omega)only[go_sem]
 refine qe (fun h1=>?_) (fun h1=>?_)
 ·simp(disch:=omega)only[go_sem,h1]
  have e1:0-(n+1)=(((0-(n+1)).toNat:Nat):Int):=by omega
  refine qa (Jd (0-(n+1)).toNat (by omega)) ?_ (by simp(disch:=omega)only[go_sem,←e1])
  simp(disch:=omega)only[go_sem]
  refine qa (Jd 1 (by omega)) ?_
  simp(disch:=omega)only[go_sem]
  have l1:=qy (m:=(0-(n+1)).toNat) (B:=64) (zy.2 (by omega))
  have l2:=qy (m:=1) (B:=64) (by decide)
  refine qa (Yd (0-(n+1)).toNat 1 (by omega) (by omega)) ?_
  simp(disch:=omega)only[go_sem]
  have e2:(0-(n+1)).toNat+1=n.natAbs:=by omega
  have l3:=qy (m:=(0-(n+1)).toNat+1) (B:=64) (zy.2 (by omega))
  refine qa (zv true ((0-(n+1)).toNat+1) (by omega)) ?_
  simp(disch:=omega)only[go_sem]
  refine qG (by simp(disch:=omega)only[go_sem]) ?_
  show qF _ 6 _=_
  have e3:decide (n.natAbs≠0)=true:=by simp;omega
  rw[e2]
  simp(disch:=omega)only[go_sem,e3,h1,Bool.true_and]
 ·simp(disch:=omega)only[go_sem,h1]
  have e1:n=((n.natAbs:Nat):Int):=by omega
  refine qa (Jd n.natAbs (by omega)) ?_ (by simp(disch:=omega)only[go_sem,←e1])
  simp(disch:=omega)only[go_sem]
  have l3:=qy (m:=n.natAbs) (B:=64) (zy.2 (by omega))
  refine qa (zv false n.natAbs (by omega)) ?_
  simp(disch:=omega)only[go_sem]
  exact qk (hp:=by simp(disch:=omega)only[go_sem,h1,Bool.false_and])
theorem QP(s:Bool)(m:Nat)(e:Int)(hm:bl m≤8000000)(he: -2^40≤e∧e≤2^40):Con Tryz.prog 204 false [.ag [.v (.bool (s)),.sl (lim (m)).length (qb (lim (m)))],.v (.int .i64 e)] [] (isA (.ag [.v (.bool (oS s m)),.sl (lim (oM m)).length (qb (lim (oM m))),.v (.int .i64 (oE m e))])):=by
 refine Con.frzA ?_
 refine Con.of_aw Tryz.func204 rfl Tryz.ntmps204 (by simp) (by simp) (by simp) (W.sound ?_)
 show @W Tryz.prog 26 ⟨_⟩ ⟨fun x σ=>@qX _ _ _ ⟨_⟩ _ ⟨_⟩ x σ⟩ _ _
 simp(disch:=omega)only[go_sem]
 have hl:=qy hm
 refine qe (fun h1=>?_) (fun h1=>?_)
 ·simp(disch:=omega)only[go_sem,h1]
  have h0:m=0:=qH.1 (List.length_eq_zero_iff.1 (by omega))
  subst h0
  refine qG (by simp(disch:=omega)only[go_sem]) ?_
  show qF _ 6 _=_
  simp only[oS,ZP,oE,qm,if_true]
  simp(disch:=omega)only[go_sem]
 ·have h0:m≠0:=fun e=>h1 (by rw[e,qm];rfl)
  have ht:=y4 h0
  simp(disch:=omega)only[go_sem,h1]
  refine qi (aef m (by omega)) ?_
  simp(disch:=omega)only[go_sem]
  refine qp rfl [⟨0,[],[]⟩,⟨1,[],[]⟩,⟨2,[1],[]⟩,⟨3,[1],[]⟩,⟨4,[1,3],[]⟩,⟨7,[1,3],[]⟩,⟨8,[1,3],[]⟩,⟨9,[1,3],[]⟩,⟨5,[1],[]⟩,⟨6,[],[]⟩,⟨10,[],[]⟩,⟨11,[],[]⟩] (by kernel_rfl) ?_
  simp(disch:=omega)only[go_sem]
  refine qa (aqC m (tz m) (by omega) (by omega)) ?_
  simp(disch:=omega)only[go_sem]
  have l3:=qy (Nat.le_trans (yH m (2^tz m)) hm)
  refine qa (zv s (m/2^tz m) (by omega)) ?_
  simp(disch:=omega)only[go_sem]
  refine qG (by simp(disch:=omega)only[go_sem]) ?_
  show qF _ 6 _=_
  have h3:decide (m/2^tz m≠0)=true:=by
   have:=(Qf h0).1
   simp only[decide_eq_true_eq];omega
  simp only[oS,oM,oE,if_neg h0]
  simp(disch:=omega)only[go_sem,h3,Bool.and_true]
end Go.Ab
namespace Go.Ab
open Go Go.Proofs
theorem Jf(a b:Nat)(la:(lim a).length≤2^40)(lb:(lim b).length≤2^40):
  Con Tryz.prog 261 true [.ag [.sl (lim (a)).length (qb (lim (a)))],.ag [.sl (lim (b)).length (qb (lim (b)))]] [] (isA (.v (.int .i64 (zf a b)))):=by
 refine Con.of_w (rs:=[.tmp 4]) Tryz.func261 rfl Tryz.ntmps261 rfl ?_
 simp(disch:=omega)only[go_sem]
 refine zG (fun h1=>?_) (fun h1=>?_)
 ·simp(disch:=omega)only[go_sem,h1]
  refine qe (fun h2=>?_) (fun h2=>?_)
  ·simp(disch:=omega)only[go_sem,h2]
   have:=Qh (a:=a) (b:=b) (by omega)
   rw[show zf (a:Int) (b:Int)= -1 by unfold zf;rw[if_pos (by omega)]]
   exact qA
  ·simp(disch:=omega)only[go_sem,h2]
   have:=Qh (a:=b) (b:=a) (by omega)
   rw[show zf (a:Int) (b:Int)=1 by unfold zf;rw[if_neg (by omega),if_pos (by omega)]]
   exact qA
 ·simp(disch:=omega)only[go_sem,h1]
  have hl:(lim a).length=(lim b).length:=by omega
  refine qj (fun k:Nat=>[(2,.pt 40000000 0),(3,.pt 50000000 0),(5,.v (.int .i64 ((k:Int)-1)))])
   (fun _=>[(40000000,.own 0 [.sl (lim (a)).length (qb (lim (a)))]),(50000000,.own 0 [.sl (lim (b)).length (qb (lim (b)))])]) (fun k=>k≤(lim a).length∧(lim a).drop k=(lim b).drop k) (fun k=>k) (lim a).length ⟨Nat.le_refl _,by rw[List.drop_length,hl,List.drop_length]⟩ (Le.lst [] _ _ rfl (by simp(disch:=omega)only[go_sem];try omega) (by simp(disch:=omega)only[go_sem])) ?_
  rintro k ⟨hk,hd⟩
  simp(disch:=omega)only[go_sem]
  refine qe (fun h2=>?_) (fun h2=>?_)
  ·obtain⟨i,rfl⟩:∃i,k=i+1:=⟨k-1,by omega⟩
   have ei:((i+1:Nat):Int)-1=(i:Nat):=by omega
   have hva:=q6 a
   have hvb:=q6 b
   simp(disch:=omega)only[go_sem,h2,ei]
   refine qp rfl [⟨0,[],[]⟩,⟨1,[],[]⟩,⟨2,[1],[]⟩,⟨3,[],[]⟩,⟨4,[],[]⟩,⟨5,[1,4],[]⟩,⟨6,[1,4],[]⟩,⟨7,[1,4,6],[]⟩,⟨8,[1,4],[]⟩,⟨9,[1,4],[]⟩,⟨10,[],[]⟩] (by kernel_rfl) ?_
   simp(disch:=omega)only[go_sem,ei]
   refine⟨by omega,by omega,by omega,by omega,?_⟩
   refine qe (fun h3=>?_) (fun h3=>?_)
   ·simp(disch:=omega)only[go_sem,h3]
    have:=Zf (q8 a) (q8 b) (by omega) hl hd h3
    rw[show zf (a:Int) (b:Int)= -1 by unfold zf;rw[if_pos (by omega)]]
    exact qA
   ·simp(disch:=omega)only[go_sem,h3]
    refine qp rfl [⟨0,[],[]⟩,⟨1,[],[]⟩,⟨2,[1],[]⟩,⟨3,[],[]⟩,⟨4,[],[]⟩,⟨5,[1,4],[]⟩,⟨6,[1,4],[]⟩,⟨7,[1,4,6],[]⟩,⟨8,[1,4],[]⟩,⟨9,[1,4],[]⟩,⟨10,[],[]⟩] (by kernel_rfl) ?_
    simp(disch:=omega)only[go_sem,ei]
    refine⟨by omega,by omega,by omega,by omega,?_⟩
    refine qe (fun h4=>?_) (fun h4=>?_)
    ·simp(disch:=omega)only[go_sem,h4]
     have:=Zf (q8 b) (q8 a) (by omega) hl.symm hd.symm h4
     rw[show zf (a:Int) (b:Int)=1 by unfold zf;rw[if_neg (by omega),if_pos (by omega)]]
     exact qA
    ·simp(disch:=omega)only[go_sem,h4]
     refine qc i [] ⟨by omega,?_⟩ (by show i<i+1;omega) rfl (by simp(disch:=omega)only[go_sem];try omega) (by simp(disch:=omega)only[go_sem])
     have h5:(lim a).getD i 0=(lim b).getD i 0:=by omega
     rw[yp (l:=lim a) (by omega),yp (l:=lim b) (by omega),h5,hd]
  ·simp(disch:=omega)only[go_sem,h2]
   have:k=0:=by omega
   subst this
   rw[List.drop_zero,List.drop_zero]at hd
   have:=yj hd
   subst this
   rw[show zf (a:Int) (a:Int)=0 by simp[zf]]
   exact qA
theorem aqB(cl:Bool)(a b:Nat)(hle:b≤a)(la:(lim a).length≤1000000):Con Tryz.prog 278 cl [.ag [.sl (lim (a)).length (qb (lim (a)))],.ag [.sl (lim (b)).length (qb (lim (b)))]] [] (aET (a-b)):=by
 have lB:(lim b).length≤(lim a).length:=yE hle
 have hA:=q8 a
 have hB:=q8 b
 refine Con.of_aw Tryz.func278 rfl Tryz.ntmps278 (by simp) (by simp) (by simp) (W.sound ?_)
 show @W Tryz.prog 45 ⟨_⟩ ⟨fun x σ=>@qX _ _ _ ⟨_⟩ _ ⟨_⟩ x σ⟩ _ _
 simp(disch:=omega)only[go_sem]
 refine qj (fun x:Nat×List Int×Int=>[(2,.pt 2 0),(3,.pt 3 0),(4,.pt 4 0),(5,.rf 1 0 x.2.1.length),(6,.v (.int .i64 x.2.2)),(7,.v (.int .i64 x.1))])
  (fun x=>[(1,.own 1 (qb x.2.1)),(2,.own 0 [.sl (lim (a)).length (qb (lim (a)))]),(3,.own 0 [.sl (lim (b)).length (qb (lim (b)))]),(4,.own 0 [.v (.slice none 0 0)])])
  (fun x=>x.1≤(lim a).length∧x.2.1.length=x.1∧gd x.2.1∧(0≤x.2.2∧x.2.2≤1)∧vl x.2.1-65536^x.1*x.2.2=vl ((lim a).take x.1)-vl ((lim b).take x.1))
  (fun x=>(lim a).length-x.1) (0,[],0) ⟨by simp,rfl,ZZ,by simp,by simp[vl]⟩
  ((Le.ghost 5 1 1 (by simp(disch:=omega)only[go_sem]) (by simp(disch:=omega)only[go_sem])).trans (Le.lst [(2,40000000),(3,50000000),(4,60000000)] _ _ rfl (by simp(disch:=omega)only[go_sem]) (by simp(disch:=omega)only[go_sem]))) ?_
 rintro⟨i,out,bo⟩ ⟨hi,hol,hog,hbo,hov⟩
 dsimp only at hi hol hog hbo hov ⊢
 simp(disch:=omega)only[go_sem]
 refine qe (fun h1=>?_) (fun h1=>?_)
 ·have hx:=qJ hA i
  have hy:=qJ hB i
  have hstep:∀z b':Int,(lim a).getD i 0-bo-(lim b).getD i 0=z-65536*b'→vl (out++[z])-65536^(i+1)*b'=vl ((lim a).take (i+1))-vl ((lim b).take (i+1)):=by
   intro z b' hz
   rw[jp,qQ,qQ,hol,Int.pow_succ]
   generalize (65536:Int)^i=Pi at*
   grind
  have hyz:¬i<(lim b).length→(lim b).getD i 0=0:=fun h=>by rw[List.getD_eq_getElem?_getD,List.getElem?_eq_none (by omega)];rfl
  simp(disch:=omega)only[go_sem,h1]
  refine⟨by omega,by omega,qe (fun h2=>?_) (fun h2=>?_)⟩
  ·simp(disch:=omega)only[go_sem,h2]
   refine⟨by omega,by omega,qe (fun h3=>?_) (fun h3=>?_)⟩
   ·simp(disch:=omega)only[go_sem,h3]
    refine⟨by omega,qc (i+1,out++[(lim a).getD i 0-bo-(lim b).getD i 0+65536],1) [(1,440000000)] ⟨by show i+1≤_;omega,by simp[hol],qE.2 ⟨hog,zR.2 (by omega)⟩,by simp,hstep ((lim a).getD i 0-bo-(lim b).getD i 0+65536) 1 (by omega)⟩ (by show(lim a).length-(i+1)<(lim a).length-i;omega) rfl (by simp(disch:=omega)only[go_sem,List.length_append];try omega) (by simp(disch:=omega)only[go_sem])⟩
   ·simp(disch:=omega)only[go_sem,h3]
    refine⟨by omega,qc (i+1,out++[(lim a).getD i 0-bo-(lim b).getD i 0],0) [(1,440000000)] ⟨by show i+1≤_;omega,by simp[hol],qE.2 ⟨hog,zR.2 (by omega)⟩,by simp,hstep ((lim a).getD i 0-bo-(lim b).getD i 0) 0 (by omega)⟩ (by show(lim a).length-(i+1)<(lim a).length-i;omega) rfl (by simp(disch:=omega)only[go_sem,List.length_append];try omega) (by simp(disch:=omega)only[go_sem])⟩
  ·simp(disch:=omega)only[go_sem,h2]
   refine qe (fun h3=>?_) (fun h3=>?_)
   ·simp(disch:=omega)only[go_sem,h3]
    have hy0:=hyz (by omega)
    refine⟨by omega,qc (i+1,out++[(lim a).getD i 0-bo+65536],1) [(1,440000000)] ⟨by show i+1≤_;omega,by simp[hol],qE.2 ⟨hog,zR.2 (by omega)⟩,by simp,hstep ((lim a).getD i 0-bo+65536) 1 (by omega)⟩ (by show(lim a).length-(i+1)<(lim a).length-i;omega) rfl (by simp(disch:=omega)only[go_sem,List.length_append];try omega) (by simp(disch:=omega)only[go_sem])⟩
   ·simp(disch:=omega)only[go_sem,h3]
    have hy0:=hyz (by omega)
    refine⟨by omega,qc (i+1,out++[(lim a).getD i 0-bo],0) [(1,440000000)] ⟨by show i+1≤_;omega,by simp[hol],qE.2 ⟨hog,zR.2 (by omega)⟩,by simp,hstep ((lim a).getD i 0-bo) 0 (by omega)⟩ (by show(lim a).length-(i+1)<(lim a).length-i;omega) rfl (by simp(disch:=omega)only[go_sem,List.length_append];try omega) (by simp(disch:=omega)only[go_sem])⟩
 ·simp(disch:=omega)only[go_sem,h1]
  have hiA:i=(lim a).length:=by omega
  subst hiA
  rw[List.take_length,List.take_of_length_le lB]at hov
  have hva:=q6 a
  have hvb:=q6 b
  have hb0:bo=0:=by
   have h2:=Qv hog
   rw[hol]at h2
   rcases(by omega:bo=0∨bo=1)with h|h
   ·exact h
   ·subst h;omega
  subst hb0
  have hov2:vl out=((a-b:Nat):Int):=by omega
  refine qz (jo true out (a-b) (by omega) hog hov2) (by simp(disch:=omega)only[go_sem]) ?_
  rintro r hs (⟨h0,rfl,rfl⟩|⟨zs,rfl,rfl⟩)
  ·refine⟨⟨by simp,by simp(disch:=omega)only[go_sem]⟩,?_⟩
   simp(disch:=omega)only[go_sem]
   refine qh [] [] [] [.ag [.v (.slice none 0 0)]] rfl (by simp(disch:=omega)only[go_sem]) (by simp(disch:=omega)only[go_sem]) (by simp) (by intro _;simp[zk,AV.pu,AV.pu.puL,Ob.pu,qV]) (.inl ⟨h0,rfl,rfl⟩)
  ·refine⟨⟨by simp,by simp(disch:=omega)only[go_sem]⟩,?_⟩
   simp(disch:=omega)only[go_sem]
   refine qh [(0,460000000)] [.own 1 (qb (lim (a-b)++zs))] [] [.ag [.rf 0 0 (lim (a-b)).length]] rfl (by simp(disch:=omega)only[go_sem]) (by simp(disch:=omega)only[go_sem]) (by simp) (by intro _;simp[zk,AV.pu,AV.pu.puL,Ob.pu,qV]) (.inr ⟨zs,rfl,rfl⟩)
end Go.Ab
namespace Go.Ab
open Go Go.Proofs
theorem Ya(a b:Nat)(hle:b≤a)(la:(lim a).length≤1000000):Con Tryz.prog 278 false [.ag [.sl (lim (a)).length (qb (lim (a)))],.ag [.sl (lim (b)).length (qb (lim (b)))]] [] (isA (.ag [.sl (lim (a-b)).length (qb (lim (a-b)))])):=(aqB false a b hle la).natF
theorem aqA(s1:Bool)(m1:Nat)(s2:Bool)(m2:Nat)(h1:bl m1≤6000000)(h2:bl m2≤6000000):
  Con Tryz.prog 251 false [.ag [.v (.bool (s1)),.sl (lim (m1)).length (qb (lim (m1)))],.ag [.v (.bool (s2)),.sl (lim (m2)).length (qb (lim (m2)))]] [] (isA (.ag [.v (.bool (suS s1 m1 s2 m2)),.sl (lim (suM s1 m1 s2 m2)).length (qb (lim (suM s1 m1 s2 m2)))])):=by
 refine Con.frzA ?_
 have l1:=qy h1
 have l2:=qy h2
 have hge:(0≤zf (m1:Int) (m2:Int))↔m2≤m1:=by rw[Xg.2.2];omega
 have hb:=afk (s1:=s1) (s2:=s2) h1 h2
 have l3:=qy hb
 rw[←aoO]
 refine Con.of_w (rs:=[.cell 4 38]) Tryz.func251 rfl Tryz.ntmps251 rfl ?_
 simp(disch:=omega)only[go_sem]
 refine yk (fun c1=>?_) (fun c1=>?_)
 ·have c1':s1=s2:=by simpa using c1
  simp(disch:=omega)only[go_sem,c1]
  subst c1'
  rw[aeP,aeO]at*
  refine qp rfl [⟨0,[],[]⟩,⟨1,[],[]⟩,⟨2,[1],[]⟩,⟨3,[1],[]⟩,⟨4,[1,3],[]⟩,⟨5,[1,3],[]⟩,⟨6,[1],[]⟩,⟨7,[],[]⟩,⟨8,[],[]⟩] (by kernel_rfl) ?_
  simp(disch:=omega)only[go_sem]
  refine qa (Yd m1 m2 (by omega) (by omega)) ?_
  simp(disch:=omega)only[go_sem]
  refine qa (zv s1 (m1+m2) (by omega)) ?_
  simp(disch:=omega)only[go_sem]
  exact qk
 ·have c1':s1≠s2:=by simpa using c1
  simp(disch:=omega)only[go_sem,c1]
  refine qi (Jf m1 m2 (by omega) (by omega)) ?_
  simp(disch:=omega)only[go_sem]
  refine qe (fun c2=>?_) (fun c2=>?_)
  ·have c2':m2≤m1:=hge.1 (by omega)
   rw[aEL c1' c2',aEE c1' c2']at*
   simp(disch:=omega)only[go_sem,c2]
   refine qp rfl [⟨0,[],[]⟩,⟨1,[],[]⟩,⟨2,[1],[]⟩,⟨3,[1],[]⟩,⟨4,[1,3],[]⟩,⟨5,[1,3],[]⟩,⟨6,[1],[]⟩,⟨7,[],[]⟩,⟨8,[],[]⟩] (by kernel_rfl) ?_
   simp(disch:=omega)only[go_sem]
   refine qa (Ya m1 m2 c2' (by omega)) ?_
   simp(disch:=omega)only[go_sem]
   refine qa (zv s1 (m1-m2) (by omega)) ?_
   simp(disch:=omega)only[go_sem]
   exact qk
  ·have c2':¬m2≤m1:=fun h=>c2 (by have:=hge.2 h;omega)
   rw[aEK c1' c2',aED c1' c2']at*
   simp(disch:=omega)only[go_sem,c2]
   refine qp rfl [⟨0,[],[]⟩,⟨1,[],[]⟩,⟨2,[1],[]⟩,⟨3,[1],[]⟩,⟨4,[1,3],[]⟩,⟨5,[1,3],[]⟩,⟨6,[1],[]⟩,⟨7,[],[]⟩,⟨8,[],[]⟩] (by kernel_rfl) ?_
   simp(disch:=omega)only[go_sem]
   refine qa (Ya m2 m1 (by omega) (by omega)) ?_
   simp(disch:=omega)only[go_sem]
   refine qa (zv s2 (m2-m1) (by omega)) ?_
   simp(disch:=omega)only[go_sem]
   exact qk
theorem aqy(s:Bool)(m:Nat)(hl:(lim m).length≤2^39):Con Tryz.prog 190 false [.ag [.v (.bool (s)),.sl (lim (m)).length (qb (lim (m)))]] [] (isA (.ag [.v (.bool ((!s)&&decide (m≠0))),.sl (lim (m)).length (qb (lim (m)))])):=by
 refine Con.frzA ?_
 refine Con.of_w (rs:=[.cell 2 38]) Tryz.func190 rfl Tryz.ntmps190 rfl ?_
 simp(disch:=omega)only[go_sem]
 refine qa (zv (!s) m hl) ?_
 simp(disch:=omega)only[go_sem]
 exact qk
theorem aaA(s:Bool)(m:Nat)(e:Int)(hl:(lim m).length≤2^39):Con Tryz.prog 112 false [.ag [.v (.bool (s)),.sl (lim (m)).length (qb (lim (m))),.v (.int .i64 (e))]] [] (isA (.ag [.v (.bool ((!s)&&decide (m≠0))),.sl (lim (m)).length (qb (lim (m))),.v (.int .i64 (e))])):=by
 refine Con.frzA ?_
 refine Con.of_w (rs:=[.cell 2 40]) Tryz.func112 rfl Tryz.ntmps112 rfl ?_
 simp(disch:=omega)only[go_sem]
 refine qp rfl [⟨0,[],[]⟩,⟨1,[],[]⟩,⟨3,[1],[]⟩,⟨4,[1],[]⟩,⟨2,[4],[]⟩,⟨5,[],[]⟩,⟨6,[],[]⟩] (by kernel_rfl) ?_
 simp(disch:=omega)only[go_sem]
 refine qa (aqy s m hl) ?_
 simp(disch:=omega)only[go_sem]
 exact qk
def alF(m1:Nat)(e1:Int)(m2:Nat)(e2:Int):Int:=if m1=0 then e2 else if m2=0 then e1 else if e1≤e2 then e1 else e2
theorem aTF(m1:Nat)(e1:Int)(m2:Nat)(e2:Int)(h:¬(m1=0∧m2=0)):alF m1 e1 m2 e2=alE m1 e1 m2 e2:=by
 unfold alF alE
 repeat' split
 all_goals omega
theorem Jc(s1:Bool)(m1:Nat)(e1:Int)(s2:Bool)(m2:Nat)(e2:Int)(h1:bl m1≤4000000)(h2:bl m2≤4000000)(he1: -1000000≤e1∧e1≤1000000)(he2: -1000000≤e2∧e2≤1000000)(z1:m1=0→s1=false)(z2:m2=0→s2=false):
  Con Tryz.prog 208 false [.ag [.v (.bool (s1)),.sl (lim (m1)).length (qb (lim (m1))),.v (.int .i64 (e1))],.ag [.v (.bool (s2)),.sl (lim (m2)).length (qb (lim (m2))),.v (.int .i64 (e2))]] [] (isA (.tu [.ag [.v (.bool (s1)),.sl (lim (alA m1 e1 (alE m1 e1 m2 e2))).length (qb (lim (alA m1 e1 (alE m1 e1 m2 e2))))],.ag [.v (.bool (s2)),.sl (lim (alA m2 e2 (alE m1 e1 m2 e2))).length (qb (lim (alA m2 e2 (alE m1 e1 m2 e2))))],.v (.int .i64 (alF m1 e1 m2 e2))])):=by
 refine Con.frzA ?_
 have l1:=qy h1
 have l2:=qy h2
 refine Con.of_aw Tryz.func208 rfl Tryz.ntmps208 (by simp) (by simp) (by simp) (W.sound ?_)
 show @W Tryz.prog 70 ⟨_⟩ ⟨fun x σ=>@qX _ _ _ ⟨_⟩ _ ⟨_⟩ x σ⟩ _ _
 simp(disch:=omega)only[go_sem]
 refine qe (fun c1=>?_) (fun c1=>?_)
 ·have y1:m1=0:=qH.1 (List.length_eq_zero_iff.1 (by omega))
  have eF:alF m1 e1 m2 e2=e2:=by unfold alF;rw[if_pos y1]
  have a1:alA m1 e1 (alE m1 e1 m2 e2)=m1:=by rw[y1];unfold alA;rw[Nat.zero_mul]
  have a2:alA m2 e2 (alE m1 e1 m2 e2)=m2:=by
   by_cases y2:m2=0
   ·rw[y2];unfold alA;rw[Nat.zero_mul]
   ·unfold alA alE;rw[if_neg y2,if_pos y1,Int.sub_self];simp
  simp(disch:=omega)only[go_sem,c1]
  refine qp rfl [⟨0,[],[]⟩,⟨1,[],[]⟩,⟨2,[1],[]⟩,⟨3,[1],[]⟩,⟨4,[1,3],[]⟩,⟨5,[1,3],[]⟩,⟨6,[3,5],[]⟩,⟨7,[5],[]⟩,⟨8,[],[]⟩] (by kernel_rfl) ?_
  simp(disch:=omega)only[go_sem]
  refine qG (by simp(disch:=omega)only[go_sem]) ?_
  show qF _ 6 _=_
  rw[eF,a1,a2]
  simp(disch:=omega)only[go_sem]
 ·have y1:m1≠0:=fun e=>c1 (by rw[e,qm];rfl)
  simp(disch:=omega)only[go_sem,c1]
  refine qe (fun c2=>?_) (fun c2=>?_)
  ·have y2:m2=0:=qH.1 (List.length_eq_zero_iff.1 (by omega))
   have eF:alF m1 e1 m2 e2=e1:=by unfold alF;rw[if_neg y1,if_pos y2]
   have a1:alA m1 e1 (alE m1 e1 m2 e2)=m1:=by unfold alA alE;rw[if_pos y2,Int.sub_self];simp
   have a2:alA m2 e2 (alE m1 e1 m2 e2)=m2:=by rw[y2];unfold alA;rw[Nat.zero_mul]
   simp(disch:=omega)only[go_sem,c2]
   refine qp rfl [⟨0,[],[]⟩,⟨1,[],[]⟩,⟨2,[1],[]⟩,⟨3,[1],[]⟩,⟨4,[1,3],[]⟩,⟨5,[1,3],[]⟩,⟨6,[3,5],[]⟩,⟨7,[5],[]⟩,⟨8,[],[]⟩] (by kernel_rfl) ?_
   simp(disch:=omega)only[go_sem]
   refine qG (by simp(disch:=omega)only[go_sem]) ?_
   show qF _ 6 _=_
   rw[eF,a1,a2]
   simp(disch:=omega)only[go_sem]
  ·have y2:m2≠0:=fun e=>c2 (by rw[e,qm];rfl)
   simp(disch:=omega)only[go_sem,c2]
   refine qe (fun c3=>?_) (fun c3=>?_)
   ·have eF:alF m1 e1 m2 e2=e1:=by unfold alF;rw[if_neg y1,if_neg y2,if_pos c3]
    have eE:alE m1 e1 m2 e2=e1:=by unfold alE;rw[if_neg y2,if_neg y1,if_neg (by omega)]
    have a1:alA m1 e1 (alE m1 e1 m2 e2)=m1:=by rw[eE];unfold alA;rw[Int.sub_self];simp
    have ek:e2-e1=(((e2-e1).toNat:Nat):Int):=by omega
    have hb:bl (m2*2^(e2-e1).toNat)≤6000000:=by have:=QR m2 (e2-e1).toNat;omega
    have l3:=qy hb
    have hn:m2*2^(e2-e1).toNat≠0:=Nat.mul_ne_zero y2 (Nat.pos_iff_ne_zero.1 (Nat.pow_pos (by omega)))
    have hd:decide (m2*2^(e2-e1).toNat≠0)=true:=decide_eq_true hn
    simp(disch:=omega)only[go_sem,c3]
    refine qp rfl [⟨0,[],[]⟩,⟨1,[],[]⟩,⟨2,[1],[]⟩,⟨3,[1],[]⟩,⟨4,[1],[]⟩,⟨5,[1,4],[]⟩,⟨6,[1,4],[]⟩,⟨7,[1,4],[]⟩,⟨8,[1,4,7],[]⟩,⟨9,[1,4,7],[]⟩,⟨10,[1,4,7,9],[]⟩,⟨11,[1,4,7,9],[]⟩,⟨12,[1,4,7],[]⟩,⟨15,[1,4,7,9,11],[]⟩,⟨16,[1,4,7,9,11],[]⟩,⟨13,[1,4,16],[]⟩,⟨14,[1,16],[]⟩,⟨17,[16],[]⟩,⟨18,[16],[]⟩,⟨19,[],[]⟩] (by kernel_rfl) ?_
    simp(disch:=omega)only[go_sem]
    refine q9 (Yb m2 (e2-e1).toNat (by omega) (by omega)) (by simp(disch:=omega)only[go_sem,←ek]) ?_
    rintro r hs ⟨rfl,rfl,_⟩
    refine⟨by simp[qP],?_⟩
    simp(disch:=omega)only[go_sem]
    refine qa (zv s2 (m2*2^(e2-e1).toNat) (by omega)) ?_
    simp(disch:=omega)only[go_sem]
    refine qG (by simp(disch:=omega)only[go_sem]) ?_
    show qF _ 6 _=_
    rw[eF,a1,eE,hd];unfold alA
    simp(disch:=omega)only[go_sem,Bool.and_true]
   ·have eF:alF m1 e1 m2 e2=e2:=by unfold alF;rw[if_neg y1,if_neg y2,if_neg c3]
    have eE:alE m1 e1 m2 e2=e2:=by unfold alE;rw[if_neg y2,if_neg y1,if_pos (by omega)]
    have a2:alA m2 e2 (alE m1 e1 m2 e2)=m2:=by rw[eE];unfold alA;rw[Int.sub_self];simp
    have ek:e1-e2=(((e1-e2).toNat:Nat):Int):=by omega
    have hb:bl (m1*2^(e1-e2).toNat)≤6000000:=by have:=QR m1 (e1-e2).toNat;omega
    have l3:=qy hb
    have hn:m1*2^(e1-e2).toNat≠0:=Nat.mul_ne_zero y1 (Nat.pos_iff_ne_zero.1 (Nat.pow_pos (by omega)))
    have hd:decide (m1*2^(e1-e2).toNat≠0)=true:=decide_eq_true hn
    simp(disch:=omega)only[go_sem,c3]
    refine qp rfl [⟨0,[],[]⟩,⟨1,[],[]⟩,⟨2,[],[]⟩,⟨3,[2],[]⟩,⟨4,[2],[]⟩,⟨5,[2],[]⟩,⟨6,[2,5],[]⟩,⟨7,[2,5],[]⟩,⟨8,[2,5,7],[]⟩,⟨9,[2,5,7],[]⟩,⟨10,[2,5],[]⟩,⟨13,[2,5,7,9],[]⟩,⟨14,[2,5,7,9],[]⟩,⟨15,[2,5,7,9,14],[]⟩,⟨16,[2,5,7,9,14],[]⟩,⟨11,[2,14,16],[]⟩,⟨12,[14,16],[]⟩,⟨17,[14,16],[]⟩,⟨18,[16],[]⟩,⟨19,[],[]⟩] (by kernel_rfl) ?_
    simp(disch:=omega)only[go_sem]
    refine q9 (Yb m1 (e1-e2).toNat (by omega) (by omega)) (by simp(disch:=omega)only[go_sem,←ek]) ?_
    rintro r hs ⟨rfl,rfl,_⟩
    refine⟨by simp[qP],?_⟩
    simp(disch:=omega)only[go_sem]
    refine qa (zv s1 (m1*2^(e1-e2).toNat) (by omega)) ?_
    simp(disch:=omega)only[go_sem]
    refine qG (by simp(disch:=omega)only[go_sem]) ?_
    show qF _ 6 _=_
    rw[eF,a2,eE,hd];unfold alA
    simp(disch:=omega)only[go_sem,Bool.and_true]
theorem aqx(s1:Bool)(m1:Nat)(e1:Int)(s2:Bool)(m2:Nat)(e2:Int)(h1:bl m1≤4000000)(h2:bl m2≤4000000)(he1: -1000000≤e1∧e1≤1000000)(he2: -1000000≤e2∧e2≤1000000)(z1:m1=0→s1=false)(z2:m2=0→s2=false):
  Con Tryz.prog 192 false [.ag [.v (.bool (s1)),.sl (lim (m1)).length (qb (lim (m1))),.v (.int .i64 (e1))],.ag [.v (.bool (s2)),.sl (lim (m2)).length (qb (lim (m2))),.v (.int .i64 (e2))]] [] (isA (.ag [.v (.bool (oS (adS s1 m1 e1 s2 m2 e2) (adM s1 m1 e1 s2 m2 e2))),.sl (lim (oM (adM s1 m1 e1 s2 m2 e2))).length (qb (lim (oM (adM s1 m1 e1 s2 m2 e2)))),.v (.int .i64 (oE (adM s1 m1 e1 s2 m2 e2) (alE m1 e1 m2 e2)))])):=by
 refine Con.frzA ?_
 have hE:=Jv (m1:=m1) (m2:=m2) he1.1 he2.1
 have b1:=Q1 (e:=e1) (E:=alE m1 e1 m2 e2) (C:=2000000) h1 (by omega)
 have b2:=Q1 (e:=e2) (E:=alE m1 e1 m2 e2) (C:=2000000) h2 (by omega)
 have hF: -1000000≤alF m1 e1 m2 e2∧alF m1 e1 m2 e2≤1000000:=by
  unfold alF
  repeat' split
  all_goals omega
 have hX:oE (adM s1 m1 e1 s2 m2 e2) (alE m1 e1 m2 e2)=oE (adM s1 m1 e1 s2 m2 e2) (alF m1 e1 m2 e2):=by
  by_cases h:m1=0∧m2=0
  ·have:adM s1 m1 e1 s2 m2 e2=0:=by rw[h.1,h.2];unfold adM alA;rw[Nat.zero_mul,Nat.zero_mul];unfold suM;rw[ye,ye];rfl
   rw[this];rfl
  ·rw[aTF _ _ _ _ h]
 rw[hX]
 have l1:=qy h1
 have l2:=qy h2
 refine Con.of_w (rs:=[.cell 4 40]) Tryz.func192 rfl Tryz.ntmps192 rfl ?_
 simp(disch:=omega)only[go_sem]
 refine qa (Jc s1 m1 e1 s2 m2 e2 h1 h2 he1 he2 z1 z2) ?_
 simp(disch:=omega)only[go_sem]
 unfold adS adM
 generalize alA m1 e1 (alE m1 e1 m2 e2)=A at*
 generalize alA m2 e2 (alE m1 e1 m2 e2)=B at*
 generalize alF m1 e1 m2 e2=E at*
 refine qa (aqA s1 A s2 B (by omega) (by omega)) ?_
 simp(disch:=omega)only[go_sem]
 have hb:=afk (s1:=s1) (s2:=s2) b1 b2
 refine qa (QP (suS s1 A s2 B) (suM s1 A s2 B) E (by omega) (by omega)) ?_
 simp(disch:=omega)only[go_sem]
 exact qk
end Go.Ab
namespace Go.Ab
open Go Go.Proofs
def srM(s:Bool)(m:Nat)(e low mode:Int):Nat:=oM (roM s m e low mode)
def srE(s:Bool)(m:Nat)(e low mode:Int):Int:=if low≤e∨m=0 then e else oE (roM s m e low mode) low
end Go.Ab
namespace Go.Ab
open Go Go.Proofs
end Go.Ab
namespace Go.Ab
open Go Go.Proofs
theorem ajJ(xs:List Int)(hl:xs.length≤2^40):Con Tryz.prog 252 true [.ag [.sl xs.length (qb xs)]] [] (isA (.v (.bool (YC xs)))):=by
 refine Con.of_aw Tryz.func252 rfl Tryz.ntmps252 (by simp) (by simp) (by simp) (W.sound ?_)
 show @W Tryz.prog 44 ⟨_⟩ ⟨fun x σ=>@qX _ _ _ ⟨_⟩ _ ⟨_⟩ x σ⟩ _ _
 simp(disch:=omega)only[go_sem]
 refine qe (fun h1=>?_) (fun h1=>?_)
 ·simp(disch:=omega)only[go_sem,h1]
  refine qx (by simp(disch:=omega)only[go_sem]) (by simp(disch:=omega)only[go_sem]) ⟨?_,rfl,rfl⟩
  have:¬(xs.length≤100):=by omega
  simp[zk,YC,this]
 ·simp(disch:=omega)only[go_sem,h1]
  refine qj (fun i:Nat=>[(1,.pt 30000000 0),(2,.v (.bool false)),(3,.v (.int .i64 i))]) (fun _=>[(30000000,.own 0 [.sl xs.length (qb xs)])]) (fun i=>i≤xs.length∧∀x∈xs.take i,0≤x∧x≤65535) (fun i=>xs.length-i) 0 ⟨by omega,by simp⟩
   (Le.lst [] _ _ rfl (by simp(disch:=omega)only[go_sem]) (by simp(disch:=omega)only[go_sem])) ?_
  rintro i ⟨hi,hx⟩
  simp(disch:=omega)only[go_sem]
  refine qe (fun h2=>?_) (fun h2=>?_)
  ·simp(disch:=omega)only[go_sem,h2]
   have hmem:xs.getD i 0∈xs:=by
    rw[List.getD_eq_getElem?_getD,List.getElem?_eq_getElem (by omega)];exact List.getElem_mem _
   have bad:¬(0≤xs.getD i 0∧xs.getD i 0≤65535)→YC xs=false:=by
    intro hc
    unfold YC
    have:xs.all (fun x=>decide (0≤x)&&decide (x≤65535))=false:=by
     rw[List.all_eq_false]
     refine⟨_,hmem,?_⟩
     simp only[Bool.and_eq_true,decide_eq_true_eq];exact hc
    rw[this];simp
   refine⟨by omega,by omega,?_⟩
   refine zG (fun h3=>?_) (fun h3=>?_)
   ·simp(disch:=omega)only[go_sem,h3]
    refine⟨by omega,by omega,?_⟩
    refine qe (fun h4=>?_) (fun h4=>?_)
    ·simp(disch:=omega)only[go_sem,h4]
     rw[bad (by omega)]
     exact qA
    ·simp(disch:=omega)only[go_sem,h4]
     refine qc (i+1) [] ⟨by omega,?_⟩ (by show xs.length-(i+1)<xs.length-i;omega) rfl (by simp(disch:=omega)only[go_sem];try omega) (by simp(disch:=omega)only[go_sem])
     intro x hxx
     rw[List.take_add_one]at hxx
     rcases List.mem_append.1 hxx with h|h
     ·exact hx x h
     ·rw[List.getElem?_eq_getElem (by omega)]at h
      simp at h
      rw[List.getD_eq_getElem?_getD,List.getElem?_eq_getElem (by omega)]at h3 h4
      simp at h3 h4
      subst h
      omega
   ·simp(disch:=omega)only[go_sem,h3]
    rw[bad (by omega)]
    exact qA
  ·have:i=xs.length:=by omega
   subst this
   rw[List.take_length]at hx
   have hall:xs.all (fun x=>decide (0≤x)&&decide (x≤65535))=true:=by
    rw[List.all_eq_true]
    intro x h;have:=hx x h;simp only[Bool.and_eq_true,decide_eq_true_eq];exact this
   have e1:decide (xs.length≤100)=true:=by simp;omega
   simp(disch:=omega)only[go_sem,h2]
   refine zG (fun h3=>?_) (fun h3=>?_)
   ·have en:((xs.length:Int)-1).toNat=xs.length-1:=by omega
    have hmem:xs.getD (xs.length-1) 0∈xs:=by
     rw[List.getD_eq_getElem?_getD,List.getElem?_eq_getElem (by omega)];exact List.getElem_mem _
    have hp:=hx _ hmem
    simp(disch:=omega)only[go_sem,h3,en]
    refine⟨by omega,by omega,?_⟩
    refine qx (by simp(disch:=omega)only[go_sem]) (by simp(disch:=omega)only[go_sem]) ⟨?_,rfl,rfl⟩
    have e2:decide (xs.length=0)=false:=by simp;intro h;subst h;simp at h3
    show AV.v (.bool _)=AV.v (.bool _)
    unfold YC
    rw[e1,hall,e2,Bool.false_or,Bool.true_and,Bool.true_and]
    congr 2
    rw[decide_eq_decide]
    omega
   ·simp(disch:=omega)only[go_sem,h3]
    refine qx (by simp(disch:=omega)only[go_sem]) (by simp(disch:=omega)only[go_sem]) ⟨?_,rfl,rfl⟩
    have e2:decide (xs.length=0)=true:=by simp;exact List.length_eq_zero_iff.1 (by omega)
    show AV.v (.bool _)=AV.v (.bool _)
    unfold YC
    rw[e1,hall,e2]
    simp
theorem QZ(s:Bool)(xs:List Int)(hl:xs.length≤2^40):Con Tryz.prog 196 true [.ag [.v (.bool s),.sl xs.length (qb xs)]] [] (isA (.v (.bool (zO s xs)))):=by
 refine Con.of_aw Tryz.func196 rfl Tryz.ntmps196 (by simp) (by simp) (by simp) (W.sound ?_)
 show @W Tryz.prog 18 ⟨_⟩ ⟨fun x σ=>@qX _ _ _ ⟨_⟩ _ ⟨_⟩ x σ⟩ _ _
 simp(disch:=omega)only[go_sem]
 refine qi (ajJ xs hl) ?_
 simp(disch:=omega)only[go_sem]
 refine yk (fun h1=>?_) (fun h1=>?_)
 ·simp(disch:=omega)only[go_sem,h1]
  cases s
  ·simp(disch:=omega)only[go_sem]
   refine qx (by simp(disch:=omega)only[go_sem]) (by simp(disch:=omega)only[go_sem]) ⟨?_,rfl,rfl⟩
   simp[zk,zO,h1]
  ·simp(disch:=omega)only[go_sem]
   refine qx (by simp(disch:=omega)only[go_sem]) (by simp(disch:=omega)only[go_sem]) ⟨?_,rfl,rfl⟩
   show AV.v (.bool _)=AV.v (.bool _)
   unfold zO
   rw[h1,Bool.true_and,Bool.true_and,←decide_not]
   congr 2
   rw[decide_eq_decide]
   omega
 ·simp(disch:=omega)only[go_sem,h1]
  refine qx (by simp(disch:=omega)only[go_sem]) (by simp(disch:=omega)only[go_sem]) ⟨?_,rfl,rfl⟩
  simp[zk,zO,h1]
theorem yt(s:Bool)(xs:List Int)(e:Int)(hl:xs.length≤2^40):Con Tryz.prog 116 true [.ag [.v (.bool s),.sl xs.length (qb xs),.v (.int .i64 e)]] [] (isA (.v (.bool (dyB s xs e)))):=by
 refine Con.of_aw Tryz.func116 rfl Tryz.ntmps116 (by simp) (by simp) (by simp) (W.sound ?_)
 show @W Tryz.prog 31 ⟨_⟩ ⟨fun x σ=>@qX _ _ _ ⟨_⟩ _ ⟨_⟩ x σ⟩ _ _
 simp(disch:=omega)only[go_sem]
 refine qi (QZ s xs hl) ?_
 simp(disch:=omega)only[go_sem]
 refine yk (fun hw=>?_) (fun hw=>?_)
 ·have h1:=hw
  simp only[zO,Bool.and_eq_true]at h1
  obtain⟨hx,hll⟩:=Zk h1.1
  have hxs:xs=lim (vl xs).toNat:=hx
  generalize hm:(vl xs).toNat=m at*
  subst hx
  simp(disch:=omega)only[go_sem,hw]
  refine zG (fun h2=>?_) (fun h2=>?_)
  ·simp(disch:=omega)only[go_sem,h2]
   refine qe (fun h3=>?_) (fun h3=>?_)
   ·simp(disch:=omega)only[go_sem,h3]
    refine qx (by simp(disch:=omega)only[go_sem]) (by simp(disch:=omega)only[go_sem]) ⟨?_,rfl,rfl⟩
    have a2:¬e≤3000:=by omega
    simp[zk,dyB,a2]
   ·simp(disch:=omega)only[go_sem,h3]
    refine qe (fun h4=>?_) (fun h4=>?_)
    ·simp(disch:=omega)only[go_sem,h4]
     have h0:m=0:=qH.1 (List.length_eq_zero_iff.1 (by omega))
     refine qx (by simp(disch:=omega)only[go_sem]) (by simp(disch:=omega)only[go_sem]) ⟨?_,rfl,rfl⟩
     have a1: -3000≤e:=by omega
     have a2:e≤3000:=by omega
     have a3:(lim m).length=0:=by omega
     show AV.v (.bool _)=AV.v (.bool _)
     unfold dyB
     rw[hw,hm,decide_eq_true a1,decide_eq_true a2,decide_eq_true a3,h0]
     simp
    ·simp(disch:=omega)only[go_sem,h4]
     refine qi (aaD m 0 (by omega) (by omega) (by omega)) ?_
     simp(disch:=omega)only[go_sem]
     refine qx (by simp(disch:=omega)only[go_sem]) (by simp(disch:=omega)only[go_sem]) ⟨?_,rfl,rfl⟩
     have a1: -3000≤e:=by omega
     have a2:e≤3000:=by omega
     have a3:¬(lim m).length=0:=by omega
     show AV.v (.bool _)=AV.v (.bool _)
     unfold dyB
     rw[hw,hm,decide_eq_true a1,decide_eq_true a2,decide_eq_false a3]
     simp
     omega
  ·simp(disch:=omega)only[go_sem,h2]
   refine qx (by simp(disch:=omega)only[go_sem]) (by simp(disch:=omega)only[go_sem]) ⟨?_,rfl,rfl⟩
   have a1:¬ -3000≤e:=by omega
   simp[zk,dyB,a1]
 ·simp(disch:=omega)only[go_sem,hw]
  refine qx (by simp(disch:=omega)only[go_sem]) (by simp(disch:=omega)only[go_sem]) ⟨?_,rfl,rfl⟩
  simp[zk,dyB,hw]
end Go.Ab
namespace Go.Ab
open Go Go.Proofs
theorem Qn(s:Bool)(m:Nat)(e:Int):dyB (oS s m) (lim (oM m)) (oE m e)=yo m e:=by
 unfold dyB zO yo j7
 rw[q6,Int.toNat_natCast]
 have hod:=aOO m
 have hz:=bd0 s m
 by_cases h:(lim (oM m)).length≤100
 ·rw[apm _ h,decide_eq_true h,Bool.true_and,Bool.true_and]
  by_cases h0:oM m=0
  ·have hm:m=0:=yz.1 h0
   rw[hz h0,h0,hm]
   simp[oE,qm]
  ·have h1:oM m % 2=1:=hod.resolve_right h0
   have h2:decide ((lim (oM m)).length=0)=false:=by
    have:=yO h0
    exact decide_eq_false (by omega)
   rw[h2,decide_eq_true h1]
   simp
 ·rw[decide_eq_false h]
  have:YC (lim (oM m))=false:=by unfold YC;rw[decide_eq_false h,Bool.false_and]
  rw[this];simp
theorem ajO(s:Bool)(m:Nat)(e:Int)(hl:(lim (oM m)).length≤2^40):Con Tryz.prog 179 false [.ag [.v (.bool (oS s m)),.sl (lim (oM m)).length (qb (lim (oM m))),.v (.int .i64 (oE m e))]] [] (isA (if yo m e=true then .tu [.ag [.v (.bool (oS s m)),.sl (lim (oM m)).length (qb (lim (oM m))),.v (.int .i64 (oE m e))],.v (.bool true)]else .tu [.ag [.v (.bool (false)),.sl (lim (0)).length (qb (lim (0))),.v (.int .i64 (0))],.v (.bool false)])):=by
 refine Con.frzA ?_
 have ck:=yt (oS s m) (lim (oM m)) (oE m e) hl
 rw[Qn]at ck
 cases hd:yo m e
 ·rw[hd]at ck
  rw[if_neg (by simp),qm]
  refine Con.of_w (rs:=[.cell 2 40,.tmp 3]) Tryz.func179 rfl Tryz.ntmps179 rfl ?_
  simp(disch:=omega)only[go_sem]
  refine qi (ck) ?_
  simp(disch:=omega)only[go_sem]
  exact qk
 ·rw[hd]at ck
  rw[if_pos rfl]
  refine Con.of_w (rs:=[.cell 2 40,.tmp 3]) Tryz.func179 rfl Tryz.ntmps179 rfl ?_
  simp(disch:=omega)only[go_sem]
  refine qi (ck) ?_
  simp(disch:=omega)only[go_sem]
  exact qk
def pmS(s1:Bool)(m1:Nat)(s2:Bool)(m2:Nat):Bool:=(s1 != s2)&&decide (m1*m2≠0)
end Go.Ab
namespace Go.Ab
open Go Go.Proofs
theorem aqz(s1:Bool)(m1:Nat)(s2:Bool)(m2:Nat)(l1:(lim m1).length≤2^40)(l2:(lim m2).length≤2^40)(z1:m1=0→s1=false)(z2:m2=0→s2=false):
  Con Tryz.prog 209 true [.ag [.v (.bool (s1)),.sl (lim (m1)).length (qb (lim (m1)))],.ag [.v (.bool (s2)),.sl (lim (m2)).length (qb (lim (m2)))]] [] (isA (.v (.int .i64 (zf (sv s1 m1) (sv s2 m2))))):=by
 rw[aaR z1 z2]
 cases s1<;>cases s2
 ·refine Con.of_w (rs:=[.tmp 4]) Tryz.func209 rfl Tryz.ntmps209 rfl ?_
  simp(disch:=omega)only[go_sem]
  refine qi (Jf m1 m2 l1 l2) ?_
  simp(disch:=omega)only[go_sem]
  exact qA
 ·refine Con.of_w (rs:=[.tmp 4]) Tryz.func209 rfl Tryz.ntmps209 rfl ?_
  simp(disch:=omega)only[go_sem]
  exact qA
 ·refine Con.of_w (rs:=[.tmp 4]) Tryz.func209 rfl Tryz.ntmps209 rfl ?_
  simp(disch:=omega)only[go_sem]
  exact qA
 ·refine Con.of_w (rs:=[.tmp 4]) Tryz.func209 rfl Tryz.ntmps209 rfl ?_
  simp(disch:=omega)only[go_sem]
  refine qi (Jf m2 m1 l2 l1) ?_
  simp(disch:=omega)only[go_sem]
  exact qA
theorem aaB(K:Nat)(s1:Bool)(m1:Nat)(e1:Int)(s2:Bool)(m2:Nat)(e2:Int)(h1:bl m1≤4000000)(h2:bl m2≤4000000)(he1: -1000000≤e1∧e1≤1000000)(he2: -1000000≤e2∧e2≤1000000)(k1: -(K:Int)≤e1)(k2: -(K:Int)≤e2)(z1:m1=0→s1=false)(z2:m2=0→s2=false):
  Con Tryz.prog 132 true [.ag [.v (.bool (s1)),.sl (lim (m1)).length (qb (lim (m1))),.v (.int .i64 (e1))],.ag [.v (.bool (s2)),.sl (lim (m2)).length (qb (lim (m2))),.v (.int .i64 (e2))]] [] (isA (.v (.int .i64 (zf (dv K s1 m1 e1) (dv K s2 m2 e2))))):=by
 have hE:=Jv (m1:=m1) (m2:=m2) he1.1 he2.1
 have b1:=qy (Q1 (e:=e1) (E:=alE m1 e1 m2 e2) (C:=2000000) h1 (by omega))
 have b2:=qy (Q1 (e:=e2) (E:=alE m1 e1 m2 e2) (C:=2000000) h2 (by omega))
 rw[←afh k1 k2]
 have y1:alA m1 e1 (alE m1 e1 m2 e2)=0→s1=false:=fun h=>z1 (Qu.1 h)
 have y2:alA m2 e2 (alE m1 e1 m2 e2)=0→s2=false:=fun h=>z2 (Qu.1 h)
 refine Con.of_w (rs:=[.tmp 4]) Tryz.func132 rfl Tryz.ntmps132 rfl ?_
 simp(disch:=omega)only[go_sem]
 refine qa (Jc s1 m1 e1 s2 m2 e2 h1 h2 he1 he2 z1 z2) ?_
 simp(disch:=omega)only[go_sem]
 refine qi (aqz s1 (alA m1 e1 (alE m1 e1 m2 e2)) s2 (alA m2 e2 (alE m1 e1 m2 e2)) (by omega) (by omega) y1 y2) ?_
 simp(disch:=omega)only[go_sem]
 exact qA
theorem aj5(s1:Bool)(m1:Nat)(e1:Int)(s2:Bool)(m2:Nat)(e2:Int)(h1:dyB s1 (lim m1) e1=true)(h2:dyB s2 (lim m2) e2=true):
  Con Tryz.prog 52 true [.ag [.v (.bool (s1)),.sl (lim (m1)).length (qb (lim (m1))),.v (.int .i64 (e1))],.ag [.v (.bool (s2)),.sl (lim (m2)).length (qb (lim (m2))),.v (.int .i64 (e2))]] [] (isA (.v (.int .i64 (zf (dv 3000 s1 m1 e1) (dv 3000 s2 m2 e2))))):=by
 obtain⟨n1,q1,b1,c1,d1,_,f1⟩:=QI h1
 obtain⟨n2,q2,b2,c2,d2,_,f2⟩:=QI h2
 obtain rfl:=yj q1
 obtain rfl:=yj q2
 have k1:=yt s1 (lim m1) e1 (by omega)
 have k2:=yt s2 (lim m2) e2 (by omega)
 rw[h1]at k1
 rw[h2]at k2
 refine Con.of_w (rs:=[.tmp 4]) Tryz.func52 rfl Tryz.ntmps52 rfl ?_
 simp(disch:=omega)only[go_sem]
 refine qi (k1) ?_
 simp(disch:=omega)only[go_sem]
 refine qi (k2) ?_
 simp(disch:=omega)only[go_sem]
 refine qi (aaB 3000 s1 m1 e1 s2 m2 e2 (by omega) (by omega) (by omega) (by omega) (by omega) (by omega) f1 f2) ?_
 simp(disch:=omega)only[go_sem]
 exact qA
theorem aMW(s:Bool)(m:Nat)(e:Int)(h:dyB s (lim m) e=true):Con Tryz.prog 125 false [.ag [.v (.bool (s)),.sl (lim (m)).length (qb (lim (m))),.v (.int .i64 (e))]] [] (isA (.ag [.v (.bool ((!s)&&decide (m≠0))),.sl (lim (m)).length (qb (lim (m))),.v (.int .i64 (e))])):=by
 refine Con.frzA ?_
 obtain⟨n1,q1,b1,c1,d1,_,f1⟩:=QI h
 obtain rfl:=yj q1
 have k1:=yt s (lim m) e (by omega)
 rw[h]at k1
 refine Con.of_w (rs:=[.cell 2 40]) Tryz.func125 rfl Tryz.ntmps125 rfl ?_
 simp(disch:=omega)only[go_sem]
 refine qi (k1) ?_
 simp(disch:=omega)only[go_sem]
 refine qa (aaA s m e (by omega)) ?_
 simp(disch:=omega)only[go_sem]
 exact qk
theorem aaO(n:Int)(h: -9223372036854775808≤n∧n<9223372036854775808):Con Tryz.prog 127 false [.v (.int .i64 n)] [] (isA (.ag [.v (.bool (decide (n<0))),.sl (lim (n.natAbs)).length (qb (lim (n.natAbs)))])):=by
 refine Con.frzA ?_
 refine Con.of_w (rs:=[.cell 2 38]) Tryz.func127 rfl Tryz.ntmps127 rfl ?_
 simp(disch:=omega)only[go_sem]
 refine qa (Y5 n h) ?_
 simp(disch:=omega)only[go_sem]
 exact qk
theorem aLQ(e:Int):Con Tryz.prog 203 true [.v (.int .i64 e)] [] (isA (.v (.bool (decide (-12000≤e)&&decide (e≤12000))))):=by
 refine Con.of_aw Tryz.func203 rfl Tryz.ntmps203 (by simp) (by simp) (by simp) (W.sound ?_)
 show @W Tryz.prog 9 ⟨_⟩ ⟨fun x σ=>@qX _ _ _ ⟨_⟩ _ ⟨_⟩ x σ⟩ _ _
 simp(disch:=omega)only[go_sem]
 repeat' first
  |simp(disch:=omega)only[go_sem, *]
  |(with_reducible refine qe (fun _=>?_) (fun _=>?_))
  |(with_reducible refine zG (fun _=>?_) (fun _=>?_))
  |(with_reducible refine ae5 (fun _=>?_) (fun _=>?_))
  |(with_reducible refine yk (fun _=>?_) (fun _=>?_))
 all_goals exact qx (by simp(disch:=omega)only[go_sem]) (by simp(disch:=omega)only[go_sem]) ⟨by simp_all[zk]<;>omega,rfl,rfl⟩
theorem aaQ(s:Bool)(m:Nat)(e:Int)(h:zO s (lim m)=true)(he: -12000≤e∧e≤12000):
  Con Tryz.prog 126 false [.ag [.v (.bool (s)),.sl (lim (m)).length (qb (lim (m)))],.v (.int .i64 e)] [] (isA (if yo m e=true then .tu [.ag [.v (.bool (oS s m)),.sl (lim (oM m)).length (qb (lim (oM m))),.v (.int .i64 (oE m e))],.v (.bool true)]else .tu [.ag [.v (.bool (false)),.sl (lim (0)).length (qb (lim (0))),.v (.int .i64 (0))],.v (.bool false)])):=by
 refine Con.frzA ?_
 have h':=h
 simp only[zO,Bool.and_eq_true]at h'
 obtain⟨_,hl⟩:=Zk h'.1
 have hb:=afn (m:=m)
 have hb2:=qy (Nat.le_trans (jF (aJ2 m)) hb)
 have k1:=QZ s (lim m) (by omega)
 rw[h]at k1
 have k2:=aLQ e
 rw[decide_eq_true he.1,decide_eq_true he.2]at k2
 have cf:=ajO s m e (by omega)
 cases hd:yo m e
 ·rw[hd,if_neg (by simp),qm]at cf
  rw[if_neg (by simp),qm]
  refine Con.of_w (rs:=[.cell 4 40,.tmp 5]) Tryz.func126 rfl Tryz.ntmps126 rfl ?_
  simp(disch:=omega)only[go_sem]
  refine qi (k1) ?_
  simp(disch:=omega)only[go_sem]
  refine qi (k2) ?_
  simp(disch:=omega)only[go_sem]
  refine qa (QP s m e (by omega) (by omega)) ?_
  simp(disch:=omega)only[go_sem]
  refine qa (cf) ?_
  simp(disch:=omega)only[go_sem]
  exact qk
 ·rw[hd,if_pos rfl]at cf
  rw[if_pos rfl]
  refine Con.of_w (rs:=[.cell 4 40,.tmp 5]) Tryz.func126 rfl Tryz.ntmps126 rfl ?_
  simp(disch:=omega)only[go_sem]
  refine qi (k1) ?_
  simp(disch:=omega)only[go_sem]
  refine qi (k2) ?_
  simp(disch:=omega)only[go_sem]
  refine qa (QP s m e (by omega) (by omega)) ?_
  simp(disch:=omega)only[go_sem]
  refine qa (cf) ?_
  simp(disch:=omega)only[go_sem]
  exact qk
theorem aa2:tz 1=0:=aeI rfl
theorem yV:lim 1=[1]:=by rw[jY (by omega)];simp[qm]
/-! ### Sameness-/
theorem aeb(a b:Nat)(la:(lim a).length≤2^40)(lb:(lim b).length≤2^40):Con Tryz.prog 181 true [.ag [.sl (lim (a)).length (qb (lim (a)))],.ag [.sl (lim (b)).length (qb (lim (b)))]] [] (isA (.v (.bool (decide (a=b))))):=by
 refine Con.of_w (rs:=[.tmp 4]) Tryz.func181 rfl Tryz.ntmps181 rfl ?_
 simp(disch:=omega)only[go_sem]
 refine zG (fun h1=>?_) (fun h1=>?_)
 ·simp(disch:=omega)only[go_sem,h1]
  rw[decide_eq_false (fun e=>h1 (by rw[e]))]
  exact qA
 ·have hl:(lim a).length=(lim b).length:=by omega
  simp(disch:=omega)only[go_sem,h1]
  refine qj (fun i:Nat=>[(2,.pt 40000000 0),(3,.pt 50000000 0),(5,.v (.int .i64 i))]) (fun _=>[(40000000,.own 0 [.sl (lim (a)).length (qb (lim (a)))]),(50000000,.own 0 [.sl (lim (b)).length (qb (lim (b)))])])
   (fun i=>i≤(lim a).length∧(lim a).take i=(lim b).take i) (fun i=>(lim a).length-i) 0 ⟨by omega,by simp⟩ (Le.lst [] _ _ rfl (by simp(disch:=omega)only[go_sem];try omega) (by simp(disch:=omega)only[go_sem])) ?_
  rintro i ⟨hi,ht⟩
  simp(disch:=omega)only[go_sem]
  refine qe (fun h2=>?_) (fun h2=>?_)
  ·simp(disch:=omega)only[go_sem,h2]
   refine qp rfl [⟨0,[],[]⟩,⟨1,[],[]⟩,⟨2,[1],[]⟩,⟨3,[],[]⟩,⟨4,[],[]⟩,⟨5,[1,4],[]⟩,⟨6,[1,4],[]⟩,⟨7,[1,4,6],[]⟩,⟨8,[1,4],[]⟩,⟨9,[1,4],[]⟩,⟨10,[],[]⟩] (by kernel_rfl) ?_
   simp(disch:=omega)only[go_sem]
   refine⟨by omega,by omega,by omega,by omega,?_⟩
   refine zG (fun h3=>?_) (fun h3=>?_)
   ·simp(disch:=omega)only[go_sem,h3]
    rw[decide_eq_false (fun e=>h3 (by rw[e]))]
    exact qA
   ·simp(disch:=omega)only[go_sem,h3]
    refine qc (i+1) [] ⟨by omega,?_⟩ (by show(lim a).length-(i+1)<(lim a).length-i;omega) rfl (by simp(disch:=omega)only[go_sem];try omega) (by simp(disch:=omega)only[go_sem])
    rw[jG (l:=lim a) (by omega),jG (l:=lim b) (by omega),ht,h3]
  ·simp(disch:=omega)only[go_sem,h2]
   have:i=(lim a).length:=by omega
   subst this
   have ht2:lim a=lim b:=by
    have h4:=List.take_of_length_le (l:=lim b) (i:=(lim a).length) (by omega)
    rw[List.take_length,h4]at ht
    exact ht
   rw[decide_eq_true (yj ht2)]
   exact qA
theorem Y0(s1:Bool)(m1:Nat)(s2:Bool)(m2:Nat)(l1:(lim m1).length≤2^40)(l2:(lim m2).length≤2^40):Con Tryz.prog 100 true [.ag [.v (.bool (s1)),.sl (lim (m1)).length (qb (lim (m1)))],.ag [.v (.bool (s2)),.sl (lim (m2)).length (qb (lim (m2)))]] [] (isA (.v (.bool ((s1==s2)&&decide (m1=m2))))):=by
 refine Con.of_w (rs:=[.tmp 4]) Tryz.func100 rfl Tryz.ntmps100 rfl ?_
 cases hs:(s1==s2)
 ·simp(disch:=omega)only[go_sem,hs]
  exact qA
 ·simp(disch:=omega)only[go_sem,hs]
  refine qi (aeb m1 m2 l1 l2) ?_
  simp(disch:=omega)only[go_sem]
  exact qA
theorem ajG(s1:Bool)(m1:Nat)(e1:Int)(s2:Bool)(m2:Nat)(e2:Int)(l1:(lim m1).length≤2^40)(l2:(lim m2).length≤2^40):Con Tryz.prog 27 true [.ag [.v (.bool (s1)),.sl (lim (m1)).length (qb (lim (m1))),.v (.int .i64 (e1))],.ag [.v (.bool (s2)),.sl (lim (m2)).length (qb (lim (m2))),.v (.int .i64 (e2))]] [] (isA (.v (.bool (decide (e1=e2)&&((s1==s2)&&decide (m1=m2)))))):=by
 cases he:decide (e1=e2)
 ·have he':¬e1=e2:=by simpa using he
  refine Con.of_w (rs:=[.tmp 4]) Tryz.func27 rfl Tryz.ntmps27 rfl ?_
  simp(disch:=omega)only[go_sem,he']
  exact qA
 ·refine Con.of_w (rs:=[.tmp 4]) Tryz.func27 rfl Tryz.ntmps27 rfl ?_
  simp(disch:=omega)only[go_sem,he]
  refine qi (Y0 s1 m1 s2 m2 l1 l2) ?_
  simp(disch:=omega)only[go_sem]
  exact qA
end Go.Ab
namespace Go.Ab
open Go Go.Proofs
theorem aaI(e:Int)(he: -3000≤e∧e≤3000):Con Tryz.prog 47 false [.v (.int .i64 1),.v (.int .i64 e)] [] (isA (.ag [.v (.bool (false)),.sl (lim (1)).length (qb (lim (1))),.v (.int .i64 (e))])):=by
 refine Con.frzA ?_
 have hm:oM 1=1:=by unfold oM;rw[aa2]
 have hE:oE 1 e=e:=by unfold oE;rw[aa2,if_neg (by decide)];simp
 have hf:yo 1 e=true:=by
  unfold yo j7;rw[hm,hE,yV]
  simp only[Bool.and_eq_true,decide_eq_true_eq]
  exact⟨by decide,by omega,by omega⟩
 have c1:=aaQ false 1 e (by rw[yV];decide) (by omega)
 rw[if_pos hf,hm,hE]at c1
 have c0:=aaO 1 (by omega)
 have e1:decide ((1:Int)<0)=false:=rfl
 have e2:(1:Int).natAbs=1:=rfl
 rw[e1,e2]at c0
 refine Con.of_aw Tryz.func47 rfl Tryz.ntmps47 (by simp) (by simp) (by simp) (W.sound ?_)
 show @W Tryz.prog 15 ⟨_⟩ ⟨fun x σ=>@qX _ _ _ ⟨_⟩ _ ⟨_⟩ x σ⟩ _ _
 simp(disch:=omega)only[go_sem]
 refine qa (c0) ?_
 simp(disch:=omega)only[go_sem]
 refine qa (c1) ?_
 simp(disch:=omega)only[go_sem]
 refine qG (by simp(disch:=omega)only[go_sem]) ?_
 show qF _ 6 _=_
 rfl
theorem aFp:tz 1024=10:=Zq (a:=0) (by decide)
theorem aTe:(ExV.can ⟨false,1024, -10⟩)=⟨false,1,0⟩:=by
 show(⟨oS false 1024,oM 1024,oE 1024 (-10)⟩:ExV)=_
 unfold oS oM oE
 rw[aFp];rfl
theorem aqZ:(ExV.can ⟨false,1, -14⟩)=⟨false,1, -14⟩:=by
 show(⟨oS false 1,oM 1,oE 1 (-14)⟩:ExV)=_
 unfold oS oM oE
 rw[aa2];rfl
theorem YS(x:ExV)(a:Nat)(s:Bool)(e:Int)(h:x.can=⟨s,a,e⟩)(h1:(lim a).length≤100)(h2: -3000≤e∧e≤3000):x.fit=true:=by
 have e1:oM x.m=a:=congrArg ExV.m h
 have e2:oE x.m x.e=e:=congrArg ExV.e h
 unfold ExV.fit yo j7
 rw[e1,e2]
 simp only[Bool.and_eq_true,decide_eq_true_eq]
 exact⟨h1,h2⟩
theorem aer(n:Nat)(h1:n=1):Con Tryz.prog 89 false [.ag [.v (.int .i64 (n)),.sl ([ex0]).length (qu ExV.cs ([ex0]))],.v (.int .i64 (-10))] [] (isA (.tu [.ag [.v (.int .i64 (n)),.sl ([ex1]).length (qu ExV.cs ([ex1]))],.ag [.v (.bool (false)),.sl (lim (1)).length (qb (lim (1))),.v (.int .i64 (-14))],.v (.bool true)])):=by
 have c:=aeq n [ex0] (-10) aE0 (by omega) (by rw[h1];rfl) (by omega) (aaG n h1) (aqG n h1) (by rw[h1];decide+kernel) (by decide+kernel) (by
  rw[show aE0=[⟨⟨false,16383, -14⟩,⟨false,16385, -14⟩⟩] by decide+kernel,List.all_cons,List.all_nil]
  have t1:tz 16383=0:=aeI rfl
  have t2:tz 16385=0:=aeI rfl
  have f1:ExV.fit ⟨false,16383, -14⟩=true:=YS _ 16383 false (-14) (by show(⟨oS false 16383,oM 16383,oE 16383 (-14)⟩:ExV)=_;unfold oS oM oE;rw[t1];rfl) (by have:=qy (m:=16383) (B:=20) (zy.2 (by decide));omega) (by omega)
  have f2:ExV.fit ⟨false,16385, -14⟩=true:=YS _ 16385 false (-14) (by show(⟨oS false 16385,oM 16385,oE 16385 (-14)⟩:ExV)=_;unfold oS oM oE;rw[t2];rfl) (by have:=qy (m:=16385) (B:=20) (zy.2 (by decide));omega) (by omega)
  unfold SpV.fit
  rw[f1,f2];rfl)
 have eX:ae8 n aE0 (-10)=[⟨false,1024, -10⟩]:=by rw[h1];decide+kernel
 have eF:jL n aE0 (-10)=⟨false,1, -14⟩:=by rw[h1];decide+kernel
 rw[eX,eF]at c
 have f1:ExV.fit ⟨false,1024, -10⟩=true:=YS _ 1 false 0 aTe (by rw[yV];decide) (by omega)
 have f2:ExV.fit ⟨false,1, -14⟩=true:=YS _ 1 false (-14) aqZ (by rw[yV];decide) (by omega)
 rw[List.all_cons,List.all_nil,f1,f2,if_pos (by rfl),List.map_cons,List.map_nil,aTe,aqZ]at c
 exact c
set_option maxRecDepth 100000 in
theorem aaN:Con Tryz.prog 16 true [] [] (isA (.v (.bool true))):=by
 obtain⟨n,hn⟩:∃n:Nat,n=1:=⟨1,rfl⟩
 have c:=aer n hn
 have en:(n:Int)=1:=by omega
 have hrow:qu ExV.cs [ex0]=[.v (.bool false),.sl 0 [],.v (.int .i64 0)]:=by
  simp[qu,ExV.cs,ex0,qm,qb]
 rw[en,hrow]at c
 have hr1:qu ExV.cs [ex1]=[.v (.bool false),.sl (lim 1).length (qb (lim 1)),.v (.int .i64 0)]:=by
  simp[qu,ExV.cs,ex1]
 rw[hr1]at c
 have cd1:=aaI 0 (by omega)
 have cd2:=aaI (-9) (by omega)
 have csd:=ajG false 1 0 false 1 0 (by rw[yV];decide) (by rw[yV];decide)
 rw[show(decide ((0:Int)=0)&&((false==false)&&decide ((1:Nat)=1)))=true from rfl]at csd
 have hb:∀e:Int, -3000≤e∧e≤3000→dyB false (lim 1) e=true:=fun e he=>by
  rw[yV];unfold dyB
  rw[show zO false [1]=true by decide,decide_eq_true he.1,decide_eq_true he.2];rfl
 have ccm:=aj5 false 1 (-14) false 1 (-9) (hb _ (by omega)) (hb _ (by omega))
 have hle:zf (dv 3000 false 1 (-14)) (dv 3000 false 1 (-9))≤0:=(j0 _ _).1.2 (by
  unfold dv sv
  rw[if_neg (by simp),show(-9+((3000:Nat):Int)).toNat=(-14+((3000:Nat):Int)).toNat+5 by rfl,Int.pow_add]
  have:(0:Int)<2^(-14+((3000:Nat):Int)).toNat:=Int.pow_pos (by omega)
  generalize (2:Int)^(-14+((3000:Nat):Int)).toNat=p at*
  omega)
 have q3:decide (zf (dv 3000 false 1 (-14)) (dv 3000 false 1 (-9))≤0)=true:=decide_eq_true hle
 generalize zf (dv 3000 false 1 (-14)) (dv 3000 false 1 (-9))=C at*
 refine Con.of_aw Tryz.func16 rfl Tryz.ntmps16 (by simp) (by simp) (by simp)
  (AW.seqLe (E:=[(0,.v (.bool false))]) (H:=[]) (W.sound ?_) (AW.regSplit (E:=[(0,.v (.bool false)),(7,.ag [.v (.int .i64 1),.sl 1 [.v (.bool false),.sl 0 [],.v (.int .i64 0)]])]) (H:=[]) 3 (by simp only[List.take_succ_cons,List.take_zero];rfl) (by simp only[List.drop_succ_cons,List.drop_zero];rfl) ?_ ?_))
 ·show @W Tryz.prog 38 ⟨_⟩ ⟨_⟩ _ _
  simp(disch:=omega)only[go_sem]
  exact Le.lst [] _ _ rfl (by simp(disch:=omega)only[go_sem]) (by simp(disch:=omega)only[go_sem])
 ·simp(disch:=omega)only[go_sem]
  exact(Le.nilC 80000000 1 (zo:=3) (cs:=[.v (.bool false),.v (.slice none 0 0),.v (.int .i64 0)]) (by simp(disch:=omega)only[go_sem]) rfl).trans ((Le.frz 80000000 (z:=3) (ks:=[.v (.bool false),.sl 0 [],.v (.int .i64 0)]) (by simp(disch:=omega)only[go_sem,List.set_cons_succ,List.set_cons_zero]) rfl (by simp(disch:=omega)only[go_sem])).trans (Le.lst [] _ _ rfl (by simp(disch:=omega)only[go_sem]) (by simp(disch:=omega)only[go_sem])))
 show @Ch Tryz.prog 38 ⟨_⟩ ⟨_⟩ ⟨fun σ=>@W Tryz.prog 38 ⟨_⟩ ⟨fun x σ=>@qX _ _ _ ⟨_⟩ _ ⟨_⟩ x σ⟩ σ.env σ.hp⟩ _ _
 simp(disch:=omega)only[go_sem]
 refine qa (c) ?_
 simp(disch:=omega)only[go_sem]
 refine qp rfl [⟨0,[],[]⟩,⟨1,[],[]⟩,⟨2,[],[]⟩,⟨3,[],[]⟩,⟨4,[],[]⟩,⟨5,[],[]⟩,⟨6,[],[]⟩,⟨7,[],[]⟩,⟨8,[],[]⟩,⟨9,[],[]⟩,⟨10,[],[]⟩,⟨11,[],[]⟩,⟨12,[],[]⟩,⟨13,[],[]⟩,⟨14,[],[]⟩,⟨15,[],[]⟩,⟨16,[],[]⟩,⟨17,[14,16],[]⟩,⟨18,[],[]⟩,⟨19,[],[]⟩,⟨20,[],[]⟩,⟨21,[],[]⟩,⟨22,[21],[]⟩,⟨23,[],[]⟩,⟨24,[],[]⟩,⟨25,[],[]⟩,⟨26,[],[]⟩] (by kernel_rfl) ?_
 simp(disch:=omega)only[go_sem]
 refine qa (cd1) ?_
 simp(disch:=omega)only[go_sem]
 refine qi (csd) ?_
 simp(disch:=omega)only[go_sem]
 refine qa (cd2) ?_
 simp(disch:=omega)only[go_sem]
 refine qi (ccm) ?_
 simp(disch:=omega)only[go_sem]
 simp(disch:=omega)only[go_sem,q3]
 exact qA
end Go.Ab
namespace Go.Ab
end Go.Ab
namespace Go.Ab
open Go Go.Proofs
def ExV.val(K:Nat)(x:ExV):Int:=dv K x.s x.m x.e
theorem zz{x:ExV}(h:x.ok=true):(-3000≤x.e∧x.e≤3000)∧bl x.m≤1600∧(lim x.m).length≤100∧(x.m=0→x.s=false∧x.e=0)∧(x.m % 2=1∨x.m=0):=by
 obtain⟨m,e1,h1,h2,h3,h4,h5⟩:=QI h
 obtain rfl:=yj e1
 exact⟨h3,h2,h1,fun h0=>⟨h5 h0,by omega⟩,by omega⟩
theorem apa{x:ExV}(h:x.ok=true):x.can=x:=by
 obtain⟨h1,h2,h3,h4,h5⟩:=zz h
 show(⟨oS x.s x.m,oM x.m,oE x.m x.e⟩:ExV)=x
 obtain⟨s,m,e⟩:=x
 dsimp only at*
 rcases h5 with o|h0
 ·have h0:m≠0:=by omega
  have ht:=aeI o
  have g1:oS s m=s:=by unfold oS;rw[if_neg h0]
  have g2:oM m=m:=by have:=@aEQ m;rw[ht]at this;simpa using this
  have g3:oE m e=e:=by unfold oE;rw[if_neg h0,ht];simp
  rw[g1,g2,g3]
 ·obtain⟨rfl,rfl⟩:=h4 h0
  rw[h0,ZP];rfl
theorem aqY{x:ExV}(h:x.fit=true):x.can.ok=true:=by
 show dyB (oS x.s x.m) (lim (oM x.m)) (oE x.m x.e)=true
 rw[Qn];exact h
theorem J0:ex0.ok=true:=by show dyB false (lim 0) 0=true;rw[qm];decide
theorem aOU{x:ExV}(h:x.ok=true):x.neg.ok=true:=by
 show dyB ((!x.s)&&decide (x.m≠0)) (lim x.m) x.e=true
 have h:dyB x.s (lim x.m) x.e=true:=h
 unfold dyB zO at*
 simp only[Bool.and_eq_true]at h ⊢
 refine⟨⟨h.1.1,?_⟩,h.2⟩
 by_cases h0:x.m=0
 ·rw[decide_eq_false (show ¬x.m≠0 from fun h=>h h0),Bool.and_false,Bool.false_and];rfl
 ·have:decide ((lim x.m).length=0)=false:=by have:=yO h0;exact decide_eq_false (by omega)
  rw[this,Bool.and_false];rfl
theorem yu{K:Nat}{x:ExV}(h: -(K:Int)≤x.e):x.can.val K=x.val K:=by
 show dv K (oS x.s x.m) (oM x.m) (oE x.m x.e)=_
 rw[aLK h,bbf];rfl
theorem Zr{K K':Nat}{x y:ExV}(h1: -(K:Int)≤x.e)(h2: -(K':Int)≤y.e):(x.times y).val (K+K')=x.val K*y.val K':=by
 show dv (K+K') ((x.s != y.s)&&decide (x.m*y.m≠0)) (x.m*y.m) (x.e+y.e)=_
 rw[afb];exact aSY h1 h2
theorem aku{K j:Nat}{x:ExV}(h: -(K:Int)≤x.e):x.val (K+j)=x.val K*2^j:=by
 unfold ExV.val dv
 have:(x.e+((K+j:Nat):Int)).toNat=(x.e+(K:Int)).toNat+j:=by omega
 rw[this,Int.pow_add,Int.mul_assoc]
theorem aTf{K:Int}{x:ExV}(h: -K≤x.e)(h0:0≤K): -K≤x.can.e:=aZm h h0
theorem aLZ(x:ExV):x.can.ok=x.fit:=Qn x.s x.m x.e
def ExV.tel(x:ExV):ExV:=if x.fit=true then x.can else ex0
theorem aeN(x:ExV):x.tel.ok=true:=by
 unfold ExV.tel;split
 ·rename_i h;exact aqY h
 ·exact J0
/-! ### Floats that are numbers-/
def flD(F:FlV):ExV:=⟨oS (xS F.k F.s) F.m.toNat,oM F.m.toNat,oE F.m.toNat F.e⟩
end Go.Ab
namespace Go.Ab
open Go
section
variable {P:Program}{f:FuncId}{args:List AV}{bs:List Ob}{post:AV→List Ob→List Ob→Prop}
theorem Con.frzB(h:Con P f false args bs post)(hm:∀r hs bs',post r hs bs'→(∀ob∈bs',ob.men fun _=>False)∧∀ob∈hs,ob.men fun _=>False):
  Con P f false args bs (fun r' hs' bs'=>hs'=[]∧∃r hs,post r hs bs'∧r'=qF (rhp hs []) 6 r):=by
 intro R ι w vs h1 h2 h3 h4 h5
 refine(h R ι w vs h1 h2 h3 h4 h5).mono ?_
 rintro e w' ⟨x,r,hs,bs',R',ι',he,hp,hF⟩
 obtain⟨mB,mH⟩:=hm _ _ _ hp
 have hfree:∀m,10000000≤m→rhp hs [] m=.free:=fun m hm=>by simp[rhp,hm]
 have hlow:∀m,m<10000000→rhp hs [] m=rhp hs bs' m:=fun m hm=>by unfold rhp;rw[if_neg (by omega),if_neg (by omega)]
 have hnil:∀m,m<10000000→rhp [] bs' m=.free:=fun m hm=>by unfold rhp;rw[if_neg (by omega)];simp
 have hhi:∀m,10000000≤m→rhp [] bs' m=rhp hs bs' m:=fun m hm=>by unfold rhp;rw[if_pos hm,if_pos hm]
 have hsm:∀{m z cs},rhp hs [] m=.own z cs→m<10000000∧rhp hs bs' m=.own z cs:=by
  intro m z cs e
  rcases Nat.lt_or_ge m 10000000 with hm|hm
  ·exact⟨hm,by rw[←hlow m hm];exact e⟩
  ·rw[hfree m hm]at e;cases e
 have hbg:∀{m z cs},rhp [] bs' m=.own z cs→10000000≤m∧rhp hs bs' m=.own z cs:=by
  intro m z cs e
  rcases Nat.lt_or_ge m 10000000 with hm|hm
  ·rw[hnil m hm]at e;cases e
  ·exact⟨hm,by rw[←hhi m hm];exact e⟩
 have hget:∀(l:List Ob) (k z:Nat) (cs:List AV),(∀ob∈l,ob.men fun _=>False)→l.getD k .free=.own z cs→AllL (fun _=>False) cs:=by
  intro l k z cs hl e
  rw[List.getD_eq_getElem?_getD]at e
  rcases Nat.lt_or_ge k l.length with hk|hk
  ·rw[List.getElem?_eq_getElem hk]at e
   have:=hl _ (List.getElem_mem hk)
   simp only[Option.getD_some]at e
   rw[e]at this;exact this
  ·rw[List.getElem?_eq_none hk]at e;cases e
 have hO:HpOk R' ι' w' (rhp hs []):=by
  refine⟨fun m=>?_,fun m z cs B e hB hr=>hF.nR m z cs B (hsm e).2 hB (.inr hr),fun m m' z z' cs cs' B B' e e'=>hF.inj m m' z z' cs cs' B B' (hsm e).2 (hsm e').2,fun m z cs e=>?_⟩
  ·rcases Nat.lt_or_ge m 10000000 with hm|hm
   ·rw[hlow m hm];exact hF.okF m hm
   ·rw[hfree m hm];trivial
  ·have h6:=(hsm e).1
   unfold rhp at e
   rw[if_neg (by omega)]at e
   exact(hget hs m z cs mH e).mono fun _ h=>h.elim
 have hown:∀{m z cs B},rhp hs [] m=.own z cs→ι' m=some B→w.heap.size≤B.b∧B.b<w'.heap.size:=by
  intro m z cs B e hB
  obtain⟨hm,e⟩:=hsm e
  refine⟨hF.fresh m z cs B hm e hB,?_⟩
  have:=hF.okF m hm
  rw[e,hB]at this
  obtain⟨c,T,lo,hi,g1,_⟩:=this
  rcases Nat.lt_or_ge B.b w'.heap.size with h'|h'
  ·exact h'
  ·simp[Array.getElem?_eq_none h']at g1
 refine⟨x,qF (rhp hs []) 6 r,[],bs',fun b=>R' b∨arD (rhp hs []) ι' b,ι',he,⟨rfl,r,hs,hp,rfl⟩,?_⟩
 refine⟨hF.ext,fun b hb=>?_,fun b hb=>?_,.fr _ _ (zJ hO (fun _ h=>.inl h) (fun _ h=>.inr h) 6 hF.rep),jh 6 r,fun m hm=>?_,fun m hm=>?_,fun m z cs B e hB=>?_,
  fun m m' z z' cs cs' B B' e e'=>hF.inj m m' z z' cs cs' B B' (hbg e).2 (hbg e').2,fun m z cs e=>?_,fun m z cs B hm e=>?_,hF.len,hF.bown,hF.bnf⟩
 ·rcases hb with hb|⟨m,z,cs,B,e,hB,rfl⟩
  ·exact hF.rlt b hb
  ·exact(hown e hB).2
 ·rcases hb with hb|⟨m,z,cs,B,e,hB,rfl⟩
  ·exact hF.rnew b hb
  ·exact .inl (hown e hB).1
 ·rw[hnil m hm];trivial
 ·rw[hhi m hm]
  exact(hF.okB m hm).mono (fun _ _=>rfl) (fun _ _ _ _ _=>rfl) (fun b hb=>hb.elim .inl fun h=>.inr (.inl h)) (fun z cs e=>AllL.of_mem fun a _=>AV.all_true (fun _=>rfl) a)
 ·obtain⟨hm,e⟩:=hbg e
  have h6:=hF.nR m z cs B e hB
  rintro(hr|hr|⟨m',z',cs',B',e',hB',hb⟩)
  ·exact h6 (.inl hr)
  ·exact h6 (.inr hr)
  ·obtain⟨hm',e'⟩:=hsm e'
   have:=hF.inj m' m z' z cs' cs B' B e' e hB' hB hb
   omega
 ·have h6:=(hbg e).1
  unfold rhp at e
  rw[if_pos h6]at e
  exact(hget bs' _ z cs mB e).mono fun _ h=>h.elim
 ·rw[hnil m hm]at e;cases e
end
end Go.Ab
namespace Go.Ab
open Go
structure IvV where
 lo:DyV
 hi:DyV
def IvV.cs(x:IvV):List AV:=x.lo.cs++x.hi.cs
def dy0:DyV:=⟨false,[],0⟩
def iv0:IvV:=⟨dy0,dy0⟩
theorem aEX(x:IvV):x.cs.length=6:=rfl
theorem aEW{ρ:Nat→Nat}(x:IvV):zK ρ x.cs=x.cs:=rfl
theorem apK{hp:Nat→Ob}{k:Nat}(x:IvV):x.cs.map (qF hp (k+1))=x.cs:=rfl
theorem aEY{p:Nat→Prop}(x:IvV):AllL p x.cs:=by simp[IvV.cs,DyV.cs,AllL,AV.All]
theorem aKG{l:List IvV}:(qu IvV.cs l).length=l.length*6:=ZH aEX
theorem aKF{ρ:Nat→Nat}{l:List IvV}:zK ρ (qu IvV.cs l)=qu IvV.cs l:=ZG aEW
theorem aBY{hp:Nat→Ob}{k:Nat}{l:List IvV}:(qu IvV.cs l).map (qF hp (k+1))=qu IvV.cs l:=Qc apK
theorem aKH{p:Nat→Prop}{l:List IvV}:AllL p (qu IvV.cs l)=True:=eq_true (ZI aEY)
theorem aBZ{p:Nat→Prop}{x:IvV}:AllL p x.cs=True:=eq_true (aEY x)
attribute [go_sem] aKG aKF aBY aKH aBZ aEW apK
end Go.Ab
namespace Go.Ab
open Go Go.Proofs
section
variable (g:Nat)(p:IvV→Bool)
theorem aj0(x:IvV)(hf:Con Tryz.prog g true [.ag x.cs] [] (isA (.v (.bool (p x)))))(hg:qo Tryz.prog g=True):
  Con Tryz.prog 241 true [.ag x.cs,.fp [.fn g []] 0] [] (isA (.v (.bool (!p x)))):=by
 unfold IvV.cs DyV.cs at hf ⊢
 refine Con.of_w (rs:=[.tmp 3]) Tryz.func241 rfl Tryz.ntmps241 rfl ?_
 simp(disch:=omega)only[go_sem,hg]
 refine qz hf (by simp(disch:=omega)only[go_sem]) ?_
 rintro r hs ⟨rfl,rfl,_⟩
 refine⟨by simp[qP],?_⟩
 simp(disch:=omega)only[go_sem]
 exact qA
theorem aei(f:Nat)(caps:List AV)(xs:List IvV)(hl:xs.length≤2^40)(hf:∀x∈xs,Con Tryz.prog f true (.ag x.cs::caps) [] (isA (.v (.bool (p x)))))(hg:qo Tryz.prog f=True)
  (hc:∀h:Nat→Ob,caps.map (qF h 6)=caps) (hc5:∀h:Nat→Ob,caps.map (qF h 5)=caps) (hn:∀ks,AllL (j8 ks) caps) (hr:∀ρ,zK ρ caps=caps):
  Con Tryz.prog 274 true [.sl xs.length (qu IvV.cs xs),.fn f caps] [] (fun r hs bs=>∃i:Int,r=.v (.int .i64 i)∧hs=[]∧(0≤i↔∃x∈xs,p x=true)):=by
 refine Con.of_aw Tryz.func274 rfl Tryz.ntmps274 (by simp) (by simp) (by simp) (W.sound ?_)
 show @W Tryz.prog 19 ⟨_⟩ ⟨fun x σ=>@qX _ _ _ ⟨_⟩ _ ⟨_⟩ x σ⟩ _ _
 simp(disch:=omega)only[go_sem]
 refine qj (fun i:Nat=>[(0,.sl xs.length (qu IvV.cs xs)),(1,.fn f caps),(6,.sl xs.length (qu IvV.cs xs)),(7,.v (.int .i64 xs.length)),(8,.v (.int .i64 i))])
  (fun _=>[]) (fun i=>i≤xs.length∧∀j,j<i→p (xs.getD j iv0)=false) (fun i=>xs.length-i) 0 ⟨by omega,fun j hj=>by omega⟩ (Le.lst [] _ _ rfl (by simp(disch:=omega)only[go_sem,hr,hn]) (by simp(disch:=omega)only[go_sem])) ?_
 rintro i ⟨hi,hp⟩
 simp(disch:=omega)only[go_sem]
 refine qe (fun h1=>?_) (fun h1=>?_)
 ·have hcut:=Yv (l:=xs) aEX (i:=i) (by omega) iv0
  simp(disch:=omega)only[go_sem,h1,hcut,hg]
  refine⟨by omega,by omega,qz (hf (xs.getD i iv0) (by rw[List.getD_eq_getElem?_getD,List.getElem?_eq_getElem (by omega)];exact List.getElem_mem _)) (by simp(disch:=omega)only[go_sem,hc,hc5]) ?_⟩
  rintro r hs ⟨rfl,rfl,_⟩
  refine⟨by simp[qP],?_⟩
  simp(disch:=omega)only[go_sem]
  refine yk (fun h2=>?_) (fun h2=>?_)
  ·simp(disch:=omega)only[go_sem,h2]
   refine qx (by simp(disch:=omega)only[go_sem]) (by simp(disch:=omega)only[go_sem]) ⟨i,rfl,rfl,?_⟩
   refine⟨fun _=>⟨_,?_,h2⟩,fun _=>by omega⟩
   rw[List.getD_eq_getElem?_getD,List.getElem?_eq_getElem (by omega)];exact List.getElem_mem _
  ·simp(disch:=omega)only[go_sem,h2]
   refine qc (i+1) [] ⟨by omega,fun j hj=>?_⟩ (by show xs.length-(i+1)<xs.length-i;omega) rfl (by simp(disch:=omega)only[go_sem,hr,hn];try omega) (by simp(disch:=omega)only[go_sem])
   rcases(by omega:j<i∨j=i)with h|h
   ·exact hp j h
   ·subst h;exact h2
 ·simp(disch:=omega)only[go_sem,h1]
  refine qx (by simp(disch:=omega)only[go_sem]) (by simp(disch:=omega)only[go_sem]) ⟨-1,rfl,rfl,?_⟩
  refine⟨fun h=>by omega,fun⟨x,hx,hpx⟩=>?_⟩
  obtain⟨j,hj,rfl⟩:=List.getElem_of_mem hx
  have:=hp j (by omega)
  rw[List.getD_eq_getElem?_getD,List.getElem?_eq_getElem hj]at this
  simp only[Option.getD_some]at this
  rw[this]at hpx;cases hpx
theorem JC(f:Nat)(caps:List AV)(xs:List IvV)(hl:xs.length≤2^40)(hf:∀x∈xs,Con Tryz.prog f true (.ag x.cs::caps) [] (isA (.v (.bool (p x)))))(hg:qo Tryz.prog f=True)
  (hc:∀h:Nat→Ob,caps.map (qF h 6)=caps) (hc5:∀h:Nat→Ob,caps.map (qF h 5)=caps) (hn:∀ks,AllL (j8 ks) caps) (hr:∀ρ,zK ρ caps=caps):
  Con Tryz.prog 240 true [.sl xs.length (qu IvV.cs xs),.fn f caps] [] (isA (.v (.bool (xs.any p)))):=by
 refine Con.of_aw Tryz.func240 rfl Tryz.ntmps240 (by simp) (by simp) (by simp) (W.sound ?_)
 show @W Tryz.prog 9 ⟨_⟩ ⟨fun x σ=>@qX _ _ _ ⟨_⟩ _ ⟨_⟩ x σ⟩ _ _
 simp(disch:=omega)only[go_sem]
 refine qz (aei p f caps xs hl hf hg hc hc5 hn hr) (by simp(disch:=omega)only[go_sem,hc,hc5]) ?_
 rintro r hs ⟨i,rfl,rfl,hi⟩
 refine⟨by simp[qP],?_⟩
 simp(disch:=omega)only[go_sem]
 refine qx (by simp(disch:=omega)only[go_sem]) (by simp(disch:=omega)only[go_sem]) ⟨?_,rfl,rfl⟩
 have:decide (0≤i)=xs.any p:=by rw[Bool.eq_iff_iff,decide_eq_true_eq,hi,List.any_eq_true]
 rw[this];rfl
theorem aqN(xs:List IvV)(hl:xs.length≤2^40)(hf:∀x∈xs,Con Tryz.prog g true [.ag x.cs] [] (isA (.v (.bool (p x)))))(hg:qo Tryz.prog g=True):
  Con Tryz.prog 183 true [.sl xs.length (qu IvV.cs xs),.fn g []] [] (isA (.v (.bool (xs.all p)))):=by
 refine Con.of_aw Tryz.func183 rfl Tryz.ntmps183 (by simp) (by simp) (by simp) (W.sound ?_)
 show @W Tryz.prog 9 ⟨_⟩ ⟨fun x σ=>@qX _ _ _ ⟨_⟩ _ ⟨_⟩ x σ⟩ _ _
 simp(disch:=omega)only[go_sem]
 refine qz (JC (fun x=> !p x) 241 [.fp [.fn g []] 0] xs hl (fun x hx=>aj0 g p x (hf x hx) hg) (by simp(disch:=omega)only[go_sem]) (fun h=>rfl) (fun h=>rfl) (fun ks=>by simp(disch:=omega)only[go_sem]) (fun ρ=>rfl)) (by simp(disch:=omega)only[go_sem]) ?_
 rintro r hs ⟨rfl,rfl,_⟩
 refine⟨by simp[qP],?_⟩
 simp(disch:=omega)only[go_sem]
 refine qx (by simp(disch:=omega)only[go_sem]) (by simp(disch:=omega)only[go_sem]) ⟨?_,rfl,rfl⟩
 have:(!xs.any fun x=> !p x)=xs.all p:=by rw[List.all_eq_not_any_not]
 rw[this];rfl
end
end Go.Ab
namespace Go.Ab
open Go Go.Proofs
/-! ### Intervals that were drawn,and those that are valid-/
def DyV.ex(d:DyV):ExV:=⟨d.s,(vl d.xs).toNat,d.e⟩
def ExV.dyv(x:ExV):DyV:=⟨x.s,lim x.m,x.e⟩
theorem aLB(x:ExV):x.dyv.ex=x:=by unfold ExV.dyv DyV.ex;rw[q6,Int.toNat_natCast]
theorem aCJ{d:DyV}(h:d.ok=true):d=d.ex.dyv∧d.ex.ok=true:=by
 obtain⟨s,xs,e⟩:=d
 obtain⟨m,hm, -⟩:=QI (show dyB s xs e=true from h)
 subst hm
 have e1:(DyV.mk s (lim m) e).ex=⟨s,m,e⟩:=aLB ⟨s,m,e⟩
 rw[e1]
 exact⟨rfl,h⟩
def ivB(v:IvV):Bool:=v.lo.ok&&(v.hi.ok&&decide (v.lo.ex.val 3000≤v.hi.ex.val 3000))
def IvV.sp(v:IvV):SpV:=⟨v.lo.ex,v.hi.ex⟩
def SpV.iv(s:SpV):IvV:=⟨s.lo.dyv,s.hi.dyv⟩
def SpV.ok(s:SpV):Bool:=s.lo.ok&&(s.hi.ok&&decide (s.lo.val 3000≤s.hi.val 3000))
theorem ae1(s:SpV):ivB s.iv=s.ok:=by
 unfold ivB SpV.ok SpV.iv
 rw[aLB,aLB];rfl
theorem aKI{v:IvV}(h:ivB v=true):∃s:SpV,v=s.iv∧s.ok=true:=by
 have h':=h
 simp only[ivB,Bool.and_eq_true]at h'
 obtain⟨lo,hi⟩:=v
 have e:(⟨lo,hi⟩:IvV)=(IvV.sp ⟨lo,hi⟩).iv:=by
  show _=IvV.mk lo.ex.dyv hi.ex.dyv
  rw[←(aCJ h'.1).1,←(aCJ h'.2.1).1]
 exact⟨_,e,by rw[←ae1,←e];exact h⟩
theorem y9{s:SpV}(h:s.ok=true):s.lo.ok=true∧s.hi.ok=true∧s.lo.val 3000≤s.hi.val 3000:=by
 simpa [SpV.ok]using h
theorem jz{s:SpV}(h:s.ok=true):s.bd (-3000) 4600:=⟨Q8 (y9 h).1,Q8 (y9 h).2.1⟩
theorem Jn{K:Nat}{x y:ExV}(h1: -(K:Int)≤x.e)(h2: -(K:Int)≤y.e):x.cmp y=zf (x.val K) (y.val K):=by
 unfold ExV.cmp
 exact afh h1 h2
theorem Yj{x y:ExV}(hx:x.ok=true)(hy:y.ok=true):x.cmp y=zf (x.val 3000) (y.val 3000):=Jn (zz hx).1.1 (zz hy).1.1
theorem aen(a b:DyV)(ha:a.xs.length≤1000)(hb:b.xs.length≤1000):Con Tryz.prog 81 true [.sl 2 [.v (.bool a.s),.sl a.xs.length (qb a.xs),.v (.int .i64 a.e),.v (.bool b.s),.sl b.xs.length (qb b.xs),.v (.int .i64 b.e)]] [] (isA (.v (.bool (a.ok&&b.ok)))):=by
 have c:=Yg [a,b] (by simp) (by intro x hx;simp at hx;rcases hx with rfl|rfl<;>omega)
 rw[show [a,b].all DyV.ok=(a.ok&&b.ok) by simp]at c
 exact c
theorem Xe(v:IvV)(h1:v.lo.xs.length≤1000)(h2:v.hi.xs.length≤1000):Con Tryz.prog 109 true [.ag [.v (.bool (v).lo.s),.sl (v).lo.xs.length (qb (v).lo.xs),.v (.int .i64 (v).lo.e),.v (.bool (v).hi.s),.sl (v).hi.xs.length (qb (v).hi.xs),.v (.int .i64 (v).hi.e)]] [] (isA (.v (.bool (ivB v)))):=by
 unfold ivB
 have ca:=aen v.lo v.hi h1 h2
 cases k1:v.lo.ok
 ·rw[k1]at ca
  refine Con.of_aw Tryz.func109 rfl Tryz.ntmps109 (by simp) (by simp) (by simp) (W.sound ?_)
  show @W Tryz.prog 19 ⟨_⟩ ⟨fun x σ=>@qX _ _ _ ⟨_⟩ _ ⟨_⟩ x σ⟩ _ _
  simp(disch:=omega)only[go_sem]
  refine qp rfl [⟨0,[],[]⟩,⟨1,[],[]⟩,⟨2,[1],[]⟩,⟨3,[1],[]⟩,⟨4,[],[]⟩,⟨5,[],[]⟩,⟨6,[],[]⟩,⟨7,[],[]⟩,⟨8,[],[]⟩,⟨10,[8],[]⟩,⟨11,[8],[]⟩,⟨9,[11],[]⟩,⟨12,[],[]⟩,⟨13,[],[]⟩,⟨14,[],[]⟩,⟨15,[],[]⟩,⟨16,[],[]⟩] (by kernel_rfl) ?_
  simp(disch:=omega)only[go_sem]
  refine qi (ca) ?_
  simp(disch:=omega)only[go_sem]
  exact qA
 cases k2:v.hi.ok
 ·rw[k1,k2]at ca
  refine Con.of_aw Tryz.func109 rfl Tryz.ntmps109 (by simp) (by simp) (by simp) (W.sound ?_)
  show @W Tryz.prog 19 ⟨_⟩ ⟨fun x σ=>@qX _ _ _ ⟨_⟩ _ ⟨_⟩ x σ⟩ _ _
  simp(disch:=omega)only[go_sem]
  refine qp rfl [⟨0,[],[]⟩,⟨1,[],[]⟩,⟨2,[1],[]⟩,⟨3,[1],[]⟩,⟨4,[],[]⟩,⟨5,[],[]⟩,⟨6,[],[]⟩,⟨7,[],[]⟩,⟨8,[],[]⟩,⟨10,[8],[]⟩,⟨11,[8],[]⟩,⟨9,[11],[]⟩,⟨12,[],[]⟩,⟨13,[],[]⟩,⟨14,[],[]⟩,⟨15,[],[]⟩,⟨16,[],[]⟩] (by kernel_rfl) ?_
  simp(disch:=omega)only[go_sem]
  refine qi (ca) ?_
  simp(disch:=omega)only[go_sem]
  exact qA
 ·rw[k1,k2]at ca
  obtain⟨lo,hi⟩:=v
  dsimp only at k1 k2 ca ⊢
  obtain⟨e1,o1⟩:=aCJ k1
  obtain⟨e2,o2⟩:=aCJ k2
  generalize lo.ex=x at*
  generalize hi.ex=y at*
  subst e1 e2
  unfold ExV.dyv at*
  refine Con.of_aw Tryz.func109 rfl Tryz.ntmps109 (by simp) (by simp) (by simp) (W.sound ?_)
  show @W Tryz.prog 19 ⟨_⟩ ⟨fun x σ=>@qX _ _ _ ⟨_⟩ _ ⟨_⟩ x σ⟩ _ _
  simp(disch:=omega)only[go_sem]
  refine qp rfl [⟨0,[],[]⟩,⟨1,[],[]⟩,⟨2,[1],[]⟩,⟨3,[1],[]⟩,⟨4,[],[]⟩,⟨5,[],[]⟩,⟨6,[],[]⟩,⟨7,[],[]⟩,⟨8,[],[]⟩,⟨10,[8],[]⟩,⟨11,[8],[]⟩,⟨9,[11],[]⟩,⟨12,[],[]⟩,⟨13,[],[]⟩,⟨14,[],[]⟩,⟨15,[],[]⟩,⟨16,[],[]⟩] (by kernel_rfl) ?_
  simp(disch:=omega)only[go_sem]
  refine qi (ca) ?_
  simp(disch:=omega)only[go_sem]
  refine qa (zh x.s x.m x.e) ?_
  simp(disch:=omega)only[go_sem]
  refine qa (zh y.s y.m y.e) ?_
  simp(disch:=omega)only[go_sem]
  refine qi (jl x y ((Q8 o1).mono (by omega) (by omega)) ((Q8 o2).mono (by omega) (by omega))) ?_
  simp(disch:=omega)only[go_sem]
  refine qx (by simp(disch:=omega)only[go_sem]) (by simp(disch:=omega)only[go_sem]) ⟨?_,rfl,rfl⟩
  rw[Yj o1 o2]
  show AV.v (.bool _)=AV.v (.bool (true&&(true&&decide (ExV.val 3000 x≤ExV.val 3000 y))))
  rw[Bool.true_and,Bool.true_and]
  congr 2
  exact decide_eq_decide.2 (j0 _ _).1
theorem ajZ(l:List IvV)(hl:l.length≤1000)(hx:∀v∈l,v.lo.xs.length≤1000∧v.hi.xs.length≤1000):Con Tryz.prog 103 true [.sl l.length (qu IvV.cs l)] [] (isA (.v (.bool (l.all ivB)))):=by
 refine Con.of_w (rs:=[.tmp 2]) Tryz.func103 rfl Tryz.ntmps103 rfl ?_
 simp(disch:=omega)only[go_sem]
 refine qi (aqN 109 ivB l (by omega) (fun v h=>Xe v (hx v h).1 (hx v h).2) (by simp(disch:=omega)only[go_sem])) ?_
 simp(disch:=omega)only[go_sem]
 exact qA
def arB(v:IvV):Prop:=v.lo.xs.length≤1000∧v.hi.xs.length≤1000
theorem Jk(a b:IvV)(ha:arB a)(hb:arB b):Con Tryz.prog 103 true [.sl 2 [.v (.bool a.lo.s),.sl a.lo.xs.length (qb a.lo.xs),.v (.int .i64 a.lo.e),.v (.bool a.hi.s),.sl a.hi.xs.length (qb a.hi.xs),.v (.int .i64 a.hi.e),.v (.bool b.lo.s),.sl b.lo.xs.length (qb b.lo.xs),.v (.int .i64 b.lo.e),.v (.bool b.hi.s),.sl b.hi.xs.length (qb b.hi.xs),.v (.int .i64 b.hi.e)]] []
  (isA (.v (.bool (ivB a&&ivB b)))):=by
 have c:=ajZ [a,b] (by simp) (by intro x hx;simp at hx;rcases hx with rfl|rfl;exact ha;exact hb)
 rw[show [a,b].all ivB=(ivB a&&ivB b) by simp]at c
 exact c
theorem YJ{s:SpV}(h:s.ok=true):arB s.iv:=by
 have h1:=zz (y9 h).1
 have h2:=zz (y9 h).2.1
 exact⟨by show(lim s.lo.m).length≤1000;omega,by show(lim s.hi.m).length≤1000;omega⟩
theorem jx(a b:SpV)(ha:a.ok=true)(hb:b.ok=true):Con Tryz.prog 103 true [.sl 2 [.v (.bool a.lo.s),.sl (lim a.lo.m).length (qb (lim a.lo.m)),.v (.int .i64 a.lo.e),.v (.bool a.hi.s),.sl (lim a.hi.m).length (qb (lim a.hi.m)),.v (.int .i64 a.hi.e),.v (.bool b.lo.s),.sl (lim b.lo.m).length (qb (lim b.lo.m)),.v (.int .i64 b.lo.e),.v (.bool b.hi.s),.sl (lim b.hi.m).length (qb (lim b.hi.m)),.v (.int .i64 b.hi.e)]] []
  (isA (.v (.bool true))):=by
 have c:=Jk a.iv b.iv (YJ ha) (YJ hb)
 rw[ae1,ae1,ha,hb]at c
 exact c
theorem Jm(s:SpV)(h:s.ok=true):Con Tryz.prog 109 true [.ag [.v (.bool (s).lo.s),.sl (lim (s).lo.m).length (qb (lim (s).lo.m)),.v (.int .i64 (s).lo.e),.v (.bool (s).hi.s),.sl (lim (s).hi.m).length (qb (lim (s).hi.m)),.v (.int .i64 (s).hi.e)]] [] (isA (.v (.bool true))):=by
 have c:=Xe s.iv (YJ h).1 (YJ h).2
 rw[ae1,h]at c
 exact c
theorem zw(s:SpV):Con Tryz.prog 105 false [.ag [.v (.bool (s).lo.s),.sl (lim (s).lo.m).length (qb (lim (s).lo.m)),.v (.int .i64 (s).lo.e),.v (.bool (s).hi.s),.sl (lim (s).hi.m).length (qb (lim (s).hi.m)),.v (.int .i64 (s).hi.e)]] [] (isA (.ag [.v (.bool (s).lo.s),.sl (lim (s).lo.m).length (qb (lim (s).lo.m)),.v (.int .i64 (s).lo.e),.v (.bool (s).hi.s),.sl (lim (s).hi.m).length (qb (lim (s).hi.m)),.v (.int .i64 (s).hi.e)])):=by
 refine Con.frzA ?_
 refine Con.of_w (rs:=[.cell 2 133]) Tryz.func105 rfl Tryz.ntmps105 rfl ?_
 simp(disch:=omega)only[go_sem]
 refine qp rfl [⟨0,[],[]⟩,⟨1,[],[]⟩,⟨3,[1],[]⟩,⟨4,[1],[]⟩,⟨2,[4],[]⟩,⟨5,[],[]⟩,⟨6,[],[]⟩,⟨7,[],[]⟩] (by kernel_rfl) ?_
 simp(disch:=omega)only[go_sem]
 refine qa (zh s.lo.s s.lo.m s.lo.e) ?_
 simp(disch:=omega)only[go_sem]
 refine qa (zh s.hi.s s.hi.m s.hi.e) ?_
 simp(disch:=omega)only[go_sem]
 exact qk
theorem Qq(s:SpV)(x:ExV)(hs:s.ok=true)(hx:x.ok=true):Con Tryz.prog 106 true [.ag [.v (.bool (s).lo.s),.sl (lim (s).lo.m).length (qb (lim (s).lo.m)),.v (.int .i64 (s).lo.e),.v (.bool (s).hi.s),.sl (lim (s).hi.m).length (qb (lim (s).hi.m)),.v (.int .i64 (s).hi.e)],.ag [.v (.bool (x).s),.sl (lim (x).m).length (qb (lim (x).m)),.v (.int .i64 (x).e)]] [] (isA (.v (.bool (decide (s.lo.val 3000≤x.val 3000)&&decide (x.val 3000≤s.hi.val 3000))))):=by
 obtain⟨o1,o2, -⟩:=y9 hs
 have c1:=jl s.lo x ((Q8 o1).mono (by omega) (by omega)) ((Q8 hx).mono (by omega) (by omega))
 have c2:=jl x s.hi ((Q8 hx).mono (by omega) (by omega)) ((Q8 o2).mono (by omega) (by omega))
 rw[Yj o1 hx]at c1
 rw[Yj hx o2]at c2
 have e1:decide (zf (s.lo.val 3000) (x.val 3000)≤0)=decide (s.lo.val 3000≤x.val 3000):=decide_eq_decide.2 (j0 _ _).1
 have e2:decide (zf (x.val 3000) (s.hi.val 3000)≤0)=decide (x.val 3000≤s.hi.val 3000):=decide_eq_decide.2 (j0 _ _).1
 refine Con.of_aw Tryz.func106 rfl Tryz.ntmps106 (by simp) (by simp) (by simp) (W.sound ?_)
 show @W Tryz.prog 17 ⟨_⟩ ⟨fun x σ=>@qX _ _ _ ⟨_⟩ _ ⟨_⟩ x σ⟩ _ _
 simp(disch:=omega)only[go_sem]
 refine qi (c1) ?_
 simp(disch:=omega)only[go_sem]
 cases h1:decide (s.lo.val 3000≤x.val 3000)
 ·simp(disch:=omega)only[go_sem,e1,h1]
  exact qA
 ·simp(disch:=omega)only[go_sem,e1,h1]
  refine qi (c2) ?_
  simp(disch:=omega)only[go_sem]
  exact qx (by simp(disch:=omega)only[go_sem]) (by simp(disch:=omega)only[go_sem]) ⟨by rw[e2];rfl,rfl,rfl⟩
theorem aj7{m c:Nat}{hp:Nat→Ob}{K:KV}(x y:ExV)(hx:x.bd (-400000) 400000)(hy:y.bd (-400000) 400000)
  (hk:K (.ag [.v (.bool (q7 [x,y]).s),.sl (lim (q7 [x,y]).m).length (qb (lim (q7 [x,y]).m)),.v (.int .i64 (q7 [x,y]).e)]) (upd hp m (.own 3 [.v (.bool x.s),.sl (lim x.m).length (qb (lim x.m)),.v (.int .i64 x.e),.v (.bool y.s),.sl (lim y.m).length (qb (lim y.m)),.v (.int .i64 y.e)])))
  (hm:hp m=.own 3 [.v (.bool x.s),.sl (lim x.m).length (qb (lim x.m)),.v (.int .i64 x.e),.v (.bool y.s),.sl (lim y.m).length (qb (lim y.m)),.v (.int .i64 y.e)]:=by simp(disch:=omega)only[go_sem]):@Zb Tryz.prog 171 [.rf m 0 2] hp c ⟨K⟩:=by
 refine yv false [m] (Ja [x,y] (by simp) (by simp) (fun z hz=>?_)) (by simp[snp,idx]) (by rw[QD,hm];rfl) rfl (qO hm (of_eq_true (ad3 (l:=[x,y])))) (by intro n hn;exact⟨_,List.mem_cons_self ..,by rw[List.mem_singleton.1 hn];rfl⟩) ?_
 ·simp only[List.mem_cons,List.not_mem_nil,or_false]at hz
  rcases hz with rfl|rfl
  ·exact hx
  ·exact hy
 rintro r hs bs ⟨rfl,rfl,rfl⟩-
 exact⟨⟨by simp,trivial,fun h=>by cases h⟩,hk⟩
theorem aeu{m c:Nat}{hp:Nat→Ob}{K:KV}(x y:ExV)(hx:x.bd (-400000) 400000)(hy:y.bd (-400000) 400000)
  (hk:K (.ag [.v (.bool (qL [x,y]).s),.sl (lim (qL [x,y]).m).length (qb (lim (qL [x,y]).m)),.v (.int .i64 (qL [x,y]).e)]) (upd hp m (.own 3 [.v (.bool x.s),.sl (lim x.m).length (qb (lim x.m)),.v (.int .i64 x.e),.v (.bool y.s),.sl (lim y.m).length (qb (lim y.m)),.v (.int .i64 y.e)])))
  (hm:hp m=.own 3 [.v (.bool x.s),.sl (lim x.m).length (qb (lim x.m)),.v (.int .i64 x.e),.v (.bool y.s),.sl (lim y.m).length (qb (lim y.m)),.v (.int .i64 y.e)]:=by simp(disch:=omega)only[go_sem]):@Zb Tryz.prog 189 [.rf m 0 2] hp c ⟨K⟩:=by
 refine yv false [m] (ajM [x,y] (by simp) (by simp) (fun z hz=>?_)) (by simp[snp,idx]) (by rw[QD,hm];rfl) rfl (qO hm (of_eq_true (ad3 (l:=[x,y])))) (by intro n hn;exact⟨_,List.mem_cons_self ..,by rw[List.mem_singleton.1 hn];rfl⟩) ?_
 ·simp only[List.mem_cons,List.not_mem_nil,or_false]at hz
  rcases hz with rfl|rfl
  ·exact hx
  ·exact hy
 rintro r hs bs ⟨rfl,rfl,rfl⟩-
 exact⟨⟨by simp,trivial,fun h=>by cases h⟩,hk⟩
def Qg(s t:SpV):SpV:=⟨q7 [s.lo,t.lo],qL [s.hi,t.hi]⟩
def bd9(s t:SpV):SpV:=⟨qL [s.lo,t.lo],q7 [s.hi,t.hi]⟩
theorem aZq{x y:ExV}(hx:x.ok=true)(hy:y.ok=true):(q7 [x,y]).ok=true∧(q7 [x,y]).val 3000=if x.val 3000<y.val 3000 then y.val 3000 else x.val 3000:=by
 show(zS x y).ok=true∧(zS x y).val 3000=_
 unfold zS
 rw[Yj hy hx]
 by_cases h:x.val 3000<y.val 3000
 ·have:0<zf (y.val 3000) (x.val 3000):=by unfold zf;rw[if_neg (by omega),if_pos h];omega
  rw[if_pos this,if_pos h];exact⟨hy,rfl⟩
 ·have:¬0<zf (y.val 3000) (x.val 3000):=by unfold zf;split<;>(try split)<;>omega
  rw[if_neg this,if_neg h];exact⟨hx,rfl⟩
theorem aO7{x y:ExV}(hx:x.ok=true)(hy:y.ok=true):(qL [x,y]).ok=true∧(qL [x,y]).val 3000=if y.val 3000<x.val 3000 then y.val 3000 else x.val 3000:=by
 show(zi x y).ok=true∧(zi x y).val 3000=_
 unfold zi
 rw[Yj hy hx]
 by_cases h:y.val 3000<x.val 3000
 ·rw[if_pos ((j0 _ _).2.1.2 h),if_pos h];exact⟨hy,rfl⟩
 ·rw[if_neg (fun h'=>h ((j0 _ _).2.1.1 h')),if_neg h];exact⟨hx,rfl⟩
theorem aMV(s t:SpV)(hs:s.ok=true)(ht:t.ok=true):Con Tryz.prog 160 false [.ag [.v (.bool (s).lo.s),.sl (lim (s).lo.m).length (qb (lim (s).lo.m)),.v (.int .i64 (s).lo.e),.v (.bool (s).hi.s),.sl (lim (s).hi.m).length (qb (lim (s).hi.m)),.v (.int .i64 (s).hi.e)],.ag [.v (.bool (t).lo.s),.sl (lim (t).lo.m).length (qb (lim (t).lo.m)),.v (.int .i64 (t).lo.e),.v (.bool (t).hi.s),.sl (lim (t).hi.m).length (qb (lim (t).hi.m)),.v (.int .i64 (t).hi.e)]] [] (isA (.tu [.ag [.v (.bool (Qg s t).lo.s),.sl (lim (Qg s t).lo.m).length (qb (lim (Qg s t).lo.m)),.v (.int .i64 (Qg s t).lo.e),.v (.bool (Qg s t).hi.s),.sl (lim (Qg s t).hi.m).length (qb (lim (Qg s t).hi.m)),.v (.int .i64 (Qg s t).hi.e)],.v (.bool (decide ((Qg s t).lo.val 3000≤(Qg s t).hi.val 3000)))])):=by
 refine Con.frzA ?_
 have bs:=jz hs
 have bt:=jz ht
 have o1:=(aZq (y9 hs).1 (y9 ht).1).1
 have o2:=(aO7 (y9 hs).2.1 (y9 ht).2.1).1
 have cc:=jl _ _ ((Q8 o1).mono (by omega) (by omega)) ((Q8 o2).mono (by omega) (by omega))
 rw[Yj o1 o2]at cc
 have e1:decide (zf ((q7 [s.lo,t.lo]).val 3000) ((qL [s.hi,t.hi]).val 3000)≤0)=decide ((q7 [s.lo,t.lo]).val 3000≤(qL [s.hi,t.hi]).val 3000):=decide_eq_decide.2 (j0 _ _).1
 unfold Qg
 refine Con.of_w (rs:=[.cell 4 133,.tmp 5]) Tryz.func160 rfl Tryz.ntmps160 rfl ?_
 simp(disch:=omega)only[go_sem]
 refine qp rfl [⟨0,[],[]⟩,⟨1,[],[]⟩,⟨2,[1],[]⟩,⟨3,[1],[]⟩,⟨6,[1,3],[]⟩,⟨7,[1,3],[]⟩,⟨8,[1,3,7],[]⟩,⟨9,[1,3,7],[]⟩,⟨4,[7,9],[]⟩,⟨10,[1,3],[130000000]⟩,⟨13,[1,3,7,9],[130000000,190000000]⟩,⟨5,[7,9],[190000000,80000000]⟩,⟨11,[],[80000000]⟩,⟨12,[],[80000000]⟩,⟨14,[],[]⟩] (by kernel_rfl) ?_
 simp(disch:=omega)only[go_sem]
 refine aj7 s.lo t.lo (bs.1.mono (by omega) (by omega)) (bt.1.mono (by omega) (by omega)) ?_
 simp(disch:=omega)only[go_sem]
 refine aeu s.hi t.hi (bs.2.mono (by omega) (by omega)) (bt.2.mono (by omega) (by omega)) ?_
 generalize q7 [s.lo,t.lo]=x at*
 generalize qL [s.hi,t.hi]=y at*
 simp(disch:=omega)only[go_sem]
 refine qp rfl [⟨0,[],[]⟩,⟨1,[0],[]⟩,⟨2,[0],[]⟩,⟨3,[0,2],[]⟩,⟨4,[0,2],[]⟩,⟨5,[0],[]⟩,⟨6,[0],[]⟩,⟨7,[],[]⟩,⟨8,[],[]⟩] (by kernel_rfl) ?_
 simp(disch:=omega)only[go_sem]
 refine qi (cc) ?_
 simp(disch:=omega)only[go_sem]
 exact qk (hp:=by simp(disch:=omega)only[go_sem,e1])
theorem aEP{x:ExV}(h:x.ok=true):x.fit=true:=by
 show yo x.m x.e=true
 rw[←Qn x.s x.m x.e]
 exact(show x.can.ok=true by rw[apa h];exact h)
def SpV.tel(s:SpV):SpV:=if s.fit=true then s.can else sp0
theorem Qp(s:SpV)(hs:s.bd (-400000) 400000):Con Tryz.prog 108 false [.ag [.v (.bool (s).lo.s),.sl (lim (s).lo.m).length (qb (lim (s).lo.m)),.v (.int .i64 (s).lo.e),.v (.bool (s).hi.s),.sl (lim (s).hi.m).length (qb (lim (s).hi.m)),.v (.int .i64 (s).hi.e)]] [] (isA (.tu [.ag [.v (.bool (s.tel).lo.s),.sl (lim (s.tel).lo.m).length (qb (lim (s.tel).lo.m)),.v (.int .i64 (s.tel).lo.e),.v (.bool (s.tel).hi.s),.sl (lim (s.tel).hi.m).length (qb (lim (s.tel).hi.m)),.v (.int .i64 (s.tel).hi.e)],.v (.bool s.fit)])):=by
 have c:=aav s hs
 unfold SpV.tel
 cases hf:s.fit<;>rw[hf]at c<;>exact c
theorem aoA{s:SpV}(h:s.ok=true):s.tel=s∧s.fit=true:=by
 obtain⟨o1,o2, -⟩:=y9 h
 have f1:s.fit=true:=by
  unfold SpV.fit
  have:=aEP o1
  have:=aEP o2
  simp[*]
 unfold SpV.tel
 rw[if_pos f1]
 exact⟨by unfold SpV.can;rw[apa o1,apa o2],f1⟩
def bd7(s t:SpV):SpV:=if(Qg s t).lo.val 3000≤(Qg s t).hi.val 3000 then Qg s t else sp0
theorem jQ(n:Int):Con Tryz.prog 104 true [.v (.int .i64 n)] [] (isA (.v (.bool (decide (-200≤n)&&decide (n≤200))))):=by
 refine Con.of_w (rs:=[.tmp 2]) Tryz.func104 rfl Tryz.ntmps104 rfl ?_
 simp(disch:=omega)only[go_sem]
 refine qi (zN n (-200) 200) ?_
 simp(disch:=omega)only[go_sem]
 exact qA
def Xm(s:SpV)(x:ExV):Bool:=decide (s.lo.val 3000≤x.val 3000)&&decide (x.val 3000≤s.hi.val 3000)
theorem Xc(s t:SpV)(hs:s.ok=true)(ht:t.ok=true):Con Tryz.prog 35 true [.ag [.v (.bool (s).lo.s),.sl (lim (s).lo.m).length (qb (lim (s).lo.m)),.v (.int .i64 (s).lo.e),.v (.bool (s).hi.s),.sl (lim (s).hi.m).length (qb (lim (s).hi.m)),.v (.int .i64 (s).hi.e)],.ag [.v (.bool (t).lo.s),.sl (lim (t).lo.m).length (qb (lim (t).lo.m)),.v (.int .i64 (t).lo.e),.v (.bool (t).hi.s),.sl (lim (t).hi.m).length (qb (lim (t).hi.m)),.v (.int .i64 (t).hi.e)]] [] (isA (.v (.bool (Xm t s.lo&&Xm t s.hi)))):=by
 have ca:=jx s t hs ht
 have c1:=Qq t s.lo ht (y9 hs).1
 have c2:=Qq t s.hi ht (y9 hs).2.1
 unfold Xm
 generalize (decide (t.lo.val 3000≤s.lo.val 3000)&&decide (s.lo.val 3000≤t.hi.val 3000))=b1 at*
 generalize (decide (t.lo.val 3000≤s.hi.val 3000)&&decide (s.hi.val 3000≤t.hi.val 3000))=b2 at*
 refine Con.of_w (rs:=[.tmp 4]) Tryz.func35 rfl Tryz.ntmps35 rfl ?_
 simp(disch:=omega)only[go_sem]
 refine qp rfl [⟨0,[],[]⟩,⟨1,[0],[]⟩,⟨2,[],[]⟩,⟨3,[],[]⟩,⟨4,[],[]⟩,⟨5,[],[]⟩,⟨7,[5],[]⟩,⟨8,[5],[]⟩,⟨6,[8],[]⟩,⟨9,[],[]⟩,⟨10,[],[]⟩,⟨11,[],[]⟩,⟨12,[],[]⟩,⟨13,[],[]⟩,⟨15,[13],[]⟩,⟨16,[13],[]⟩,⟨14,[16],[]⟩,⟨17,[],[]⟩,⟨18,[],[]⟩,⟨19,[],[]⟩,⟨20,[],[]⟩] (by kernel_rfl) ?_
 simp(disch:=omega)only[go_sem]
 refine qi (ca) ?_
 simp(disch:=omega)only[go_sem]
 refine qa (zw t) ?_
 simp(disch:=omega)only[go_sem]
 refine qa (zh s.lo.s s.lo.m s.lo.e) ?_
 simp(disch:=omega)only[go_sem]
 refine qi (c1) ?_
 simp(disch:=omega)only[go_sem]
 cases b1
 ·simp(disch:=omega)only[go_sem]
  exact qA
 ·simp(disch:=omega)only[go_sem]
  refine qa (zw t) ?_
  simp(disch:=omega)only[go_sem]
  refine qa (zh s.hi.s s.hi.m s.hi.e) ?_
  simp(disch:=omega)only[go_sem]
  refine qi (c2) ?_
  simp(disch:=omega)only[go_sem]
  exact qA
theorem Yi(s:SpV)(x:ExV)(hs:s.ok=true)(hx:x.ok=true):Con Tryz.prog 32 true [.ag [.v (.bool (s).lo.s),.sl (lim (s).lo.m).length (qb (lim (s).lo.m)),.v (.int .i64 (s).lo.e),.v (.bool (s).hi.s),.sl (lim (s).hi.m).length (qb (lim (s).hi.m)),.v (.int .i64 (s).hi.e)],.ag [.v (.bool (x).s),.sl (lim (x).m).length (qb (lim (x).m)),.v (.int .i64 (x).e)]] [] (isA (.v (.bool (Xm s x)))):=by
 have k1:=afg x.s (lim x.m) x.e (by have:=(zz hx).2.2.1;omega)
 rw[show dyB x.s (lim x.m) x.e=true from hx]at k1
 refine Con.of_w (rs:=[.tmp 4]) Tryz.func32 rfl Tryz.ntmps32 rfl ?_
 simp(disch:=omega)only[go_sem]
 refine qp rfl [⟨0,[],[]⟩,⟨1,[],[]⟩,⟨2,[],[]⟩,⟨3,[],[]⟩,⟨4,[],[]⟩,⟨5,[],[]⟩,⟨6,[],[]⟩,⟨7,[],[]⟩,⟨9,[7],[]⟩,⟨8,[9],[]⟩,⟨10,[],[]⟩,⟨11,[],[]⟩,⟨12,[],[]⟩,⟨13,[],[]⟩] (by kernel_rfl) ?_
 simp(disch:=omega)only[go_sem]
 refine qi (Jm s hs) ?_
 simp(disch:=omega)only[go_sem]
 refine qi (k1) ?_
 simp(disch:=omega)only[go_sem]
 refine qa (zw s) ?_
 simp(disch:=omega)only[go_sem]
 refine qa (zh x.s x.m x.e) ?_
 simp(disch:=omega)only[go_sem]
 refine qi (Qq s x hs hx) ?_
 simp(disch:=omega)only[go_sem]
 exact qA
theorem aqQ(x y:ExV)(h:SpV.ok ⟨x,y⟩=true):Con Tryz.prog 30 false [.ag [.v (.bool (x).s),.sl (lim (x).m).length (qb (lim (x).m)),.v (.int .i64 (x).e)],.ag [.v (.bool (y).s),.sl (lim (y).m).length (qb (lim (y).m)),.v (.int .i64 (y).e)]] [] (isA (.tu [.ag [.v (.bool (SpV.mk x y).lo.s),.sl (lim (SpV.mk x y).lo.m).length (qb (lim (SpV.mk x y).lo.m)),.v (.int .i64 (SpV.mk x y).lo.e),.v (.bool (SpV.mk x y).hi.s),.sl (lim (SpV.mk x y).hi.m).length (qb (lim (SpV.mk x y).hi.m)),.v (.int .i64 (SpV.mk x y).hi.e)],.v (.bool true)])):=by
 refine Con.frzA ?_
 have ci:=Qp ⟨x,y⟩ ⟨(jz h).1.mono (by omega) (by omega),(jz h).2.mono (by omega) (by omega)⟩
 rw[(aoA h).1,(aoA h).2]at ci
 refine Con.of_w (rs:=[.cell 4 51,.tmp 5]) Tryz.func30 rfl Tryz.ntmps30 rfl ?_
 simp(disch:=omega)only[go_sem]
 refine qi (Jm ⟨x,y⟩ h) ?_
 simp(disch:=omega)only[go_sem]
 refine qa (zw ⟨x,y⟩) ?_
 simp(disch:=omega)only[go_sem]
 refine qa (ci) ?_
 simp(disch:=omega)only[go_sem]
 exact qk
end Go.Ab
namespace Go.Ab
open Go Go.Proofs
/-! ### Matrices that were drawn,and those that are valid-/
structure matV(n:Nat)(L:List ExV):Prop where
 n1:1≤n
 n4:n≤4
 len:L.length=n*n
 ok:∀x∈L,x.ok=true
theorem matV.bd{n:Nat}{L:List ExV}(h:matV n L):gbd (-3000) 4600 L:=fun x hx=>Q8 (h.ok x hx)
def gN(n:Nat)(l:List ExV):Nat:=if l.all ExV.fit=true then n else 0
def gT(l:List ExV):List ExV:=if l.all ExV.fit=true then l.map ExV.can else []
def beY(k:Int)(M:List DyV)(k':Int)(M':List DyV):Bool:=aMQ k M&&(aMQ k' M'&&decide (k=k'))
end Go.Ab
namespace Go.Ab
/-! ### Sums and greatest ones of whole numbers-/
def qD(f:Nat→Int):Nat→Int
 |0=>0
 |k+1=>qD f k+f k
def aKs(f:Nat→Int):Nat→Int
 |0=>0
 |k+1=>if aKs f k<f k then f k else aKs f k
theorem qK{f g:Nat→Int}:∀{k:Nat},(∀i,i<k→f i=g i)→qD f k=qD g k
 |0,_=>rfl
 |k+1,h=>by rw[qD,qD,qK fun i hi=>h i (by omega),h k (by omega)]
theorem Zy(f g:Nat→Int):∀k:Nat,qD (fun i=>f i+g i) k=qD f k+qD g k
 |0=>rfl
 |k+1=>by rw[qD,qD,qD,Zy f g k];omega
theorem JK(f:Nat→Int)(c:Int):∀k:Nat,qD (fun i=>f i*c) k=qD f k*c
 |0=>by simp[qD]
 |k+1=>by rw[qD,qD,JK f c k,Int.add_mul]
theorem yx(f:Nat→Int)(c:Int):∀k:Nat,qD (fun i=>c*f i) k=c*qD f k
 |0=>by simp[qD]
 |k+1=>by rw[qD,qD,yx f c k,Int.mul_add]
theorem Qz:∀k:Nat,qD (fun _=>0) k=0
 |0=>rfl
 |k+1=>by rw[qD,Qz k];rfl
theorem JL(g:Nat→Nat→Int)(m:Nat):∀k:Nat,qD (fun i=>qD (fun t=>g i t) m) k=qD (fun t=>qD (fun i=>g i t) k) m
 |0=>(Qz m).symm
 |k+1=>by
  rw[qD,JL g m k,←Zy]
  exact qK fun t _=>rfl
theorem jq{f:Nat→Int}{j:Nat}:∀{k:Nat},j<k→(∀i,i<k→i≠j→f i=0)→qD f k=f j
 |0,h,_=>by omega
 |k+1,h,h2=>by
  rw[qD]
  by_cases hj:j=k
  ·subst hj
   have:qD f j=qD (fun _=>0) j:=qK fun i hi=>h2 i (by omega) (by omega)
   rw[this,Qz];omega
  ·rw[jq (by omega) (fun i hi=>h2 i (by omega)),h2 k (by omega) (by omega)];omega
def nrm(A:Nat→Nat→Int)(n:Nat):Int:=aKs (fun j=>qD (fun i=>((A i j).natAbs:Int)) n) n
end Go.Ab
namespace Go.Ab
open Go Go.Proofs
/-! ### What matrices tell-/
def mv(K:Nat)(L:List ExV)(n i j:Nat):Int:=(L.getD (i*n+j) ex0).val K
def eK(K:Nat)(L:List ExV):Prop:=∀x∈L, -(K:Int)≤x.e
theorem matV.eK{n:Nat}{L:List ExV}(h:matV n L){K:Nat}(hK:3000≤K):eK K L:=fun x hx=>by have:=(zz (h.ok x hx)).1;omega
theorem aLC(K:Nat):ex0.val K=0:=Z3
end Go.Ab
namespace Go.Ab
open Go Go.Proofs
def beU(l:List UInt8)(i h:Int):Ob:=.own 0 [.sl l.length (ql l),.v (.int .i64 i),.v (.int .i64 h)]
def Xn(l:List UInt8)(Q:AV→Prop):AV→List Ob→List Ob→Prop:=fun r hs bs=>hs=[]∧Q r∧∃i h:Int,(0≤i∧i≤l.length)∧bs=[.own 0 [.sl l.length (ql l),.v (.int .i64 i),.v (.int .i64 h)]]
section
variable {P:Program}{N f c:Nat}{aa0 args:List AV}{hp:Nat→Ob}{K:KV}{Q:AV→Prop}{e:Nat→AV}{l:List UInt8}{i h:Int}
theorem qt{n:Nat}(hc:Con P f false (.pt 10000000 0::args) [.own 0 [.sl l.length (ql l),.v (.int .i64 i),.v (.int .i64 h)]] (Xn l Q))
  (hk:∀(r:AV) (i' h':Int),(0≤i'∧i'≤l.length)→Q r→K (r.ren (rho c [n])) (upd hp n (.own 0 [.sl l.length (ql l),.v (.int .i64 i'),.v (.int .i64 h')])))
  (ha:aa0.map (snp (hpx false [n] hp) (idx [n]) 6)=args:=by simp(disch:=omega)only[go_sem]) (hn:hp n=.own 0 [.sl l.length (ql l),.v (.int .i64 i),.v (.int .i64 h)]:=by simp(disch:=omega)only[go_sem]):@Zb P f (.pt n 0::aa0) hp c ⟨K⟩:=by
 refine yv false [n] hc (by rw[List.map_cons,ha];simp[snp,idx]) (by rw[QD,hn];rfl) rfl (qO hn (by simp[AllL,AV.All])) (by intro m hm;rw[List.mem_singleton.1 hm];exact⟨_,List.mem_cons_self ..,rfl⟩) ?_
 rintro r hs bs ⟨rfl,hq,i',h',hi',rfl⟩-
 exact⟨⟨by simp,trivial,fun h=>by cases h⟩,hk r i' h' hi' hq⟩
theorem aEV{ks:List Nat}:∀{l:List AV},AllL (j8 []) l→leL [] ks l l
 | [],_=>trivial
 |a::r,h=>⟨⟨ao1 a,h.1.mono fun _ h=>h.elim⟩,aEV h.2⟩
theorem qM{vs:List AV}(i h:Int)(hq:Q (zk vs))(hi:0≤i∧i≤l.length:=by omega)(hh:hp 10000000=.own 0 [.sl l.length (ql l),.v (.int .i64 i),.v (.int .i64 h)]:=by simp(disch:=omega)only[go_sem])
  (hl:AllL (j8 []) vs:=by simp(disch:=omega)only[go_sem]):@aE3 N false 1 ⟨Xn l Q⟩ ⟨e⟩ vs hp:=
 qh [] [] [.own 0 [.sl l.length (ql l),.v (.int .i64 i),.v (.int .i64 h)]] vs rfl (aEV hl) ⟨⟨hh.symm,by simp[Ob.men,AllL,AV.All],trivial⟩,trivial⟩ ⟨rfl,by simp,by simp⟩ (fun h=>by cases h) ⟨rfl,hq,i,h,hi,rfl⟩
end
def bbQ(l:List UInt8)(xs:List Int)(Q:AV→Prop):AV→List Ob→List Ob→Prop:=fun r hs bs=>hs=[]∧Q r∧∃i h:Int,(0≤i∧i≤l.length)∧bs=[.own 0 [.sl l.length (ql l),.v (.int .i64 i),.v (.int .i64 h)],.own 1 (qb xs)]
section
variable {P:Program}{N f c:Nat}{aa0 args:List AV}{hp:Nat→Ob}{K:KV}{Q:AV→Prop}{e:Nat→AV}{l:List UInt8}{i h:Int}
theorem jR{n m k:Nat}{xs:List Int}(hc:Con P f false [.pt 10000000 0,.rf 10000001 0 xs.length] [.own 0 [.sl l.length (ql l),.v (.int .i64 i),.v (.int .i64 h)],.own 1 (qb xs)] (bbQ l xs Q))
  (hk:∀(r:AV) (i' h':Int),(0≤i'∧i'≤l.length)→Q r→K (r.ren (rho c [n,m])) (upd (upd hp n (.own 0 [.sl l.length (ql l),.v (.int .i64 i'),.v (.int .i64 h')])) m (.own 1 (qb xs))))
  (hx:xs.length=k:=by rfl)
  (hn:hp n=.own 0 [.sl l.length (ql l),.v (.int .i64 i),.v (.int .i64 h)]:=by simp(disch:=omega)only[go_sem]) (hm:hp m=.own 1 (qb xs):=by simp(disch:=omega)only[go_sem];rfl)
  (hd:QX [n,m]=true:=by rfl):@Zb P f [.pt n 0,.rf m 0 k] hp c ⟨K⟩:=by
 have hnm:¬m=n:=by
  have:=(jJ hd)
  simp only[List.nodup_cons,List.mem_singleton]at this
  exact fun h=>this.1 h.symm
 subst hx
 refine yv false [n,m] hc (by simp[snp,idx,hnm]) (by rw[QD,QD,hn,hm];simp only[Ob.ren,ZJ,QD];rfl) hd (aBU hn (by simp[AllL,AV.All]) hm Zm) (by intro q hq;simp only[List.mem_cons,List.not_mem_nil,or_false]at hq;rcases hq with rfl|rfl<;>simp[AV.top]) ?_
 rintro r hs bs ⟨rfl,hq,i',h',hi',rfl⟩-
 refine⟨⟨by simp,trivial,fun h=>by cases h⟩,?_⟩
 have:=hk r i' h' hi' hq
 simp only[List.map_cons,List.map_nil,Ob.ren,ZJ]
 exact this
end
section
variable (l:List UInt8)(hl:l.length≤9223372036854775807)(i h:Int)(hi:0≤i∧i≤l.length)
include hl hi
theorem jP:Con Tryz.prog 163 false [.pt 10000000 0] [.own 0 [.sl l.length (ql l),.v (.int .i64 i),.v (.int .i64 h)]] (Xn l fun r=>∃k:Int,(0≤k∧k≤255)∧r=.v (.int .i64 k)):=by
 refine Con.of_aw Tryz.func163 rfl Tryz.ntmps163 (by simp) (by simp) (by simp) (W.sound ?_)
 show @W Tryz.prog 58 ⟨_⟩ ⟨fun x σ=>@qX _ _ _ ⟨_⟩ _ ⟨_⟩ x σ⟩ _ _
 simp(disch:=omega)only[go_sem]
 generalize IntKind.i64.wrap (IntKind.i64.wrap (h*6364136223846793005)+1442695040888963407)=h1
 refine qp rfl [⟨0,[],[]⟩,⟨1,[],[]⟩,⟨2,[],[]⟩,⟨3,[],[]⟩,⟨4,[],[]⟩,⟨5,[3],[]⟩,⟨6,[3],[]⟩,⟨7,[3],[]⟩,⟨8,[3],[]⟩,⟨9,[3],[]⟩,⟨10,[],[]⟩,⟨11,[],[]⟩,⟨12,[],[]⟩] (by kernel_rfl) ?_
 simp(disch:=omega)only[go_sem]
 generalize bbE (h1.fdiv (2^min 33 64)) (h1.fdiv (2^min 45 64))=y
 have hy:0≤y % 256∧y % 256<256:=by omega
 generalize y % 256=x at*
 refine qp rfl [⟨0,[],[]⟩,⟨1,[],[]⟩,⟨2,[],[]⟩,⟨3,[],[]⟩,⟨4,[3],[]⟩,⟨5,[3],[]⟩,⟨6,[3],[]⟩,⟨7,[3],[]⟩,⟨8,[3],[]⟩,⟨9,[],[]⟩] (by kernel_rfl) ?_
 simp(disch:=omega)only[go_sem]
 refine qe (fun c1=>?_) (fun c1=>?_)
 ·simp(disch:=omega)only[go_sem,c1]
  refine qp rfl [⟨0,[],[]⟩,⟨1,[],[]⟩,⟨2,[],[]⟩,⟨3,[],[]⟩,⟨4,[],[]⟩,⟨5,[4],[]⟩,⟨6,[4],[]⟩,⟨7,[4],[]⟩,⟨8,[4],[]⟩,⟨9,[],[]⟩,⟨10,[],[]⟩,⟨11,[],[]⟩,⟨12,[],[]⟩,⟨13,[],[]⟩,⟨14,[],[]⟩] (by kernel_rfl) ?_
  simp(disch:=omega)only[go_sem]
  refine⟨by omega,by omega,?_⟩
  generalize IntKind.i64.wrap (x+IntKind.i64.wrap ((l.getD i.toNat 0).toNat:Int))=y2
  have hy2:0≤y2 % 256∧y2 % 256<256:=by omega
  refine qM (i+1) (h1) ⟨_,by omega,rfl⟩
 ·simp(disch:=omega)only[go_sem,c1]
  refine qM (i) (h1) ⟨_,by omega,rfl⟩
theorem qW(n:Int)(hn:n≤2^62):Con Tryz.prog 79 false [.pt 10000000 0,.v (.int .i64 n)] [.own 0 [.sl l.length (ql l),.v (.int .i64 i),.v (.int .i64 h)]] (Xn l fun r=>∃k:Int,(0≤k∧(0<n→k<n))∧r=.v (.int .i64 k)):=by
 refine Con.of_aw Tryz.func79 rfl Tryz.ntmps79 (by simp) (by simp) (by simp) (W.sound ?_)
 show @W Tryz.prog 37 ⟨_⟩ ⟨fun x σ=>@qX _ _ _ ⟨_⟩ _ ⟨_⟩ x σ⟩ _ _
 simp(disch:=omega)only[go_sem]
 refine qe (fun c1=>?_) (fun c1=>?_)
 ·simp(disch:=omega)only[go_sem,c1]
  refine qM (i) (h) ⟨_,⟨by omega,fun h=>by omega⟩,rfl⟩
 ·simp(disch:=omega)only[go_sem,c1]
  refine qe (fun c2=>?_) (fun c2=>?_)
  ·simp(disch:=omega)only[go_sem,c2]
   refine qt (jP l hl i h hi) ?_
   rintro r i1 h1 hi1 ⟨k1,hk1,rfl⟩
   simp(disch:=omega)only[go_sem]
   refine⟨by omega,?_⟩
   have hm:=Int.emod_nonneg k1 (show n≠0 by omega)
   have hm2:=Int.emod_lt_of_pos k1 (show 0<n by omega)
   refine qM (i1) (h1) ⟨_,⟨hm,fun _=>hm2⟩,rfl⟩
  ·simp(disch:=omega)only[go_sem,c2]
   refine qt (jP l hl i h hi) ?_
   rintro r i1 h1 hi1 ⟨k1,hk1,rfl⟩
   simp(disch:=omega)only[go_sem]
   refine qt (jP l hl i1 h1 hi1) ?_
   rintro r i2 h2 hi2 ⟨k2,hk2,rfl⟩
   simp(disch:=omega)only[go_sem]
   refine qt (jP l hl i2 h2 hi2) ?_
   rintro r i3 h3 hi3 ⟨k3,hk3,rfl⟩
   simp(disch:=omega)only[go_sem]
   refine qt (jP l hl i3 h3 hi3) ?_
   rintro r i4 h4 hi4 ⟨k4,hk4,rfl⟩
   simp(disch:=omega)only[go_sem]
   refine⟨by omega,?_⟩
   have hm:=Int.emod_nonneg (k1*16777216+k2*65536+k3*256+k4) (show n≠0 by omega)
   have hm2:=Int.emod_lt_of_pos (k1*16777216+k2*65536+k3*256+k4) (show 0<n by omega)
   refine qM (i4) (h4) ⟨_,⟨hm,fun _=>hm2⟩,rfl⟩
theorem qR(n:Int)(hn:n≤2^62):Con Tryz.prog 111 false [.pt 10000000 0,.v (.int .i64 n)] [.own 0 [.sl l.length (ql l),.v (.int .i64 i),.v (.int .i64 h)]] (Xn l fun r=>∃b:Bool,r=.v (.bool b)):=by
 refine Con.of_aw Tryz.func111 rfl Tryz.ntmps111 (by simp) (by simp) (by simp) (W.sound ?_)
 show @W Tryz.prog 9 ⟨_⟩ ⟨fun x σ=>@qX _ _ _ ⟨_⟩ _ ⟨_⟩ x σ⟩ _ _
 simp(disch:=omega)only[go_sem]
 refine qt (qW l hl i h hi n hn) ?_
 rintro r i1 h1 hi1 ⟨k1,hk1,rfl⟩
 simp(disch:=omega)only[go_sem]
 refine qM (i1) (h1) ⟨_,rfl⟩
theorem zD(xs:List Int)(h0:0<xs.length)(h1:xs.length≤2^40):Con Tryz.prog 145 false [.pt 10000000 0,.rf 10000001 0 xs.length] [.own 0 [.sl l.length (ql l),.v (.int .i64 i),.v (.int .i64 h)],.own 1 (qb xs)] (bbQ l xs fun r=>∃x∈xs,r=.v (.int .i64 x)):=by
 refine Con.of_aw Tryz.func145 rfl Tryz.ntmps145 (by simp) (by simp) (by simp) (W.sound ?_)
 show @W Tryz.prog 12 ⟨_⟩ ⟨fun x σ=>@qX _ _ _ ⟨_⟩ _ ⟨_⟩ x σ⟩ _ _
 simp(disch:=omega)only[go_sem]
 refine qt (qW l hl i h hi xs.length (by omega)) ?_
 rintro r i1 h1 hi1 ⟨k1,hk1,rfl⟩
 simp(disch:=omega)only[go_sem]
 obtain⟨n1,rfl⟩:=Int.eq_ofNat_of_zero_le hk1.1
 have hlt:n1<xs.length:=by have:=hk1.2 (by omega);omega
 simp(disch:=omega)only[go_sem]
 refine⟨by omega,by omega,?_⟩
 have hm:xs.getD n1 0∈xs:=by rw[List.getD_eq_getElem?_getD,List.getElem?_eq_getElem hlt];exact List.getElem_mem _
 refine qh [] [] [.own 0 [.sl l.length (ql l),.v (.int .i64 i1),.v (.int .i64 h1)],.own 1 (qb xs)] [.v (.int .i64 (xs.getD n1 0))] rfl (by simp(disch:=omega)only[go_sem]) (by simp(disch:=omega)only[go_sem]) (by simp) (by simp) ⟨rfl,⟨_,hm,rfl⟩,_,_,by omega,rfl⟩
end
end Go.Ab
namespace Go.Ab
open Go Go.Proofs
section
variable (l:List UInt8)(hl:l.length≤9223372036854775807)(i h:Int)(hi:0≤i∧i≤l.length)
include hl hi
theorem Y7:Con Tryz.prog 293 false [.pt 10000000 0] [.own 0 [.sl l.length (ql l),.v (.int .i64 i),.v (.int .i64 h)]] (Xn l fun r=>∃k:Int,(0≤k∧k≤100)∧r=.v (.int .i64 k)):=by
 refine Con.of_aw Tryz.func293 rfl Tryz.ntmps293 (by simp) (by simp) (by simp) (W.sound ?_)
 show @W Tryz.prog 10 ⟨_⟩ ⟨fun x σ=>@qX _ _ _ ⟨_⟩ _ ⟨_⟩ x σ⟩ _ _
 simp(disch:=omega)only[go_sem]
 refine qt (qR l hl i h hi 12 (by omega)) ?_
 rintro r i1 h1 hi1 ⟨b,rfl⟩
 simp(disch:=omega)only[go_sem]
 cases b
 ·simp(disch:=omega)only[go_sem]
  refine qt (qW l hl i1 h1 hi1 6 (by omega)) ?_
  rintro r i2 h2 hi2 ⟨k,hk,rfl⟩
  simp(disch:=omega)only[go_sem]
  have:=hk.2 (by omega)
  refine qM (i2) (h2) ⟨_,by omega,rfl⟩
 ·simp(disch:=omega)only[go_sem]
  refine jR (zD l hl i1 h1 hi1 [100,99,50,20] (by simp) (by simp)) ?_
  rintro r i2 h2 hi2 ⟨x,hx,rfl⟩
  have hx_b:0≤x∧x≤100:=by
   simp only[List.mem_cons,List.not_mem_nil,or_false]at hx
   omega
  clear hx
  simp(disch:=omega)only[go_sem]
  refine qM (i2) (h2) ⟨_,by omega,rfl⟩
theorem Yc:Con Tryz.prog 282 false [.pt 10000000 0] [.own 0 [.sl l.length (ql l),.v (.int .i64 i),.v (.int .i64 h)]] (fun r hs bs=>(∃m:Nat,bl m≤1600∧aET m r hs [])∧∃i h:Int,(0≤i∧i≤l.length)∧bs=[.own 0 [.sl l.length (ql l),.v (.int .i64 i),.v (.int .i64 h)]]):=by
 refine Con.of_aw Tryz.func282 rfl Tryz.ntmps282 (by simp) (by simp) (by simp) (W.sound ?_)
 show @W Tryz.prog 38 ⟨_⟩ ⟨fun x σ=>@qX _ _ _ ⟨_⟩ _ ⟨_⟩ x σ⟩ _ _
 simp(disch:=omega)only[go_sem]
 refine qt (Y7 l hl i h hi) ?_
 rintro r i1 h1 hi1 ⟨k,hk,rfl⟩
 simp(disch:=omega)only[go_sem]
 refine qj (fun x:Nat×List Int×Int×Int=>[(0,.pt 10000000 0),(2,.pt 2 0),(3,.rf 1 0 x.2.1.length),(4,.v (.int .i64 k)),(5,.v (.int .i64 x.1))])
  (fun x=>[(1,.own 1 (qb x.2.1)),(2,.own 0 [.v (.slice none 0 0)]),(10000000,.own 0 [.sl l.length (ql l),.v (.int .i64 x.2.2.1),.v (.int .i64 x.2.2.2)])])
  (fun x=>x.1≤k.toNat∧x.2.1.length=x.1∧gd x.2.1∧(0≤x.2.2.1∧x.2.2.1≤l.length)) (fun x=>k.toNat-x.1) (0,[],i1,h1) ⟨by simp,rfl,by simp[gd],hi1⟩
  ((Le.ghost 3 1 1 (by simp(disch:=omega)only[go_sem]) (by simp(disch:=omega)only[go_sem])).trans (Le.lst [(2,40000000)] _ _ rfl (by simp(disch:=omega)only[go_sem]) (by simp(disch:=omega)only[go_sem]))) ?_
 rintro⟨j,xs,i2,h2⟩ ⟨hj,hxl,hg,hi2⟩
 dsimp only at hj hxl hg hi2 ⊢
 simp(disch:=omega)only[go_sem]
 refine qe (fun c1=>?_) (fun c1=>?_)
 ·simp(disch:=omega)only[go_sem,c1]
  refine qt (qW l hl i2 h2 hi2 4 (by omega)) ?_
  rintro r i3 h3 hi3 ⟨q,hq,rfl⟩
  simp(disch:=omega)only[go_sem]
  by_cases q0:q=0
  ·simp(disch:=omega)only[go_sem,q0]
   exact⟨by omega,qc (j+1,xs++[65535],i3,h3) [(1,260000000)] ⟨by dsimp only;omega,by simp[hxl],qE.2 ⟨hg,by simp[gd]⟩,hi3⟩ (by show k.toNat-(j+1)<k.toNat-j;omega) rfl (by simp(disch:=omega)only[go_sem,List.length_append];try omega) (by simp(disch:=omega)only[go_sem])⟩
  by_cases q1:q=1
  ·simp(disch:=omega)only[go_sem,q0,q1]
   exact⟨by omega,qc (j+1,xs++[0],i3,h3) [(1,310000000)] ⟨by dsimp only;omega,by simp[hxl],qE.2 ⟨hg,by simp[gd]⟩,hi3⟩ (by show k.toNat-(j+1)<k.toNat-j;omega) rfl (by simp(disch:=omega)only[go_sem,List.length_append];try omega) (by simp(disch:=omega)only[go_sem])⟩
  simp(disch:=omega)only[go_sem,q0,q1]
  refine qt (qW l hl i3 h3 hi3 65536 (by omega)) ?_
  rintro r i4 h4 hi4 ⟨d,hd,rfl⟩
  simp(disch:=omega)only[go_sem]
  have hd2:=hd.2 (by omega)
  exact⟨by omega,qc (j+1,xs++[d],i4,h4) [(1,210000000)] ⟨by dsimp only;omega,by simp[hxl],qE.2 ⟨hg,QF.2 ⟨by omega,by simp[gd]⟩⟩,hi4⟩ (by show k.toNat-(j+1)<k.toNat-j;omega) rfl (by simp(disch:=omega)only[go_sem,List.length_append];try omega) (by simp(disch:=omega)only[go_sem])⟩
 ·simp(disch:=omega)only[go_sem,c1]
  refine qt (qR l hl i2 h2 hi2 4 (by omega)) ?_
  rintro r i3 h3 hi3 ⟨b,rfl⟩
  simp(disch:=omega)only[go_sem]
  cases b
  ·simp(disch:=omega)only[go_sem]
   have hv:vl xs=((vl xs).toNat:Int):=(Int.toNat_of_nonneg (qT hg)).symm
   have hb:bl (vl xs).toNat≤1600:=by
    refine zy.2 ?_
    have h1:=Qv hg
    have h2:(65536:Int)^xs.length≤65536^100:=by
     rw[show(65536:Int)=((65536:Nat):Int) from rfl,←Int.natCast_pow,←Int.natCast_pow]
     exact Int.ofNat_le.2 (Nat.pow_le_pow_right (by omega) (by omega))
    have h3:(65536:Int)^100=((2^1600:Nat):Int):=by decide+kernel
    omega
   generalize (vl xs).toNat=m at*
   refine qz (jo true xs m (by omega) hg hv) (by simp(disch:=omega)only[go_sem]) ?_
   rintro r hs (⟨h0,rfl,rfl⟩|⟨zs,rfl,rfl⟩)
   ·refine⟨⟨by simp,by simp(disch:=omega)only[go_sem]⟩,?_⟩
    simp(disch:=omega)only[go_sem]
    refine qh [] [] [.own 0 [.sl l.length (ql l),.v (.int .i64 i3),.v (.int .i64 h3)]] [.ag [.v (.slice none 0 0)]] rfl (by simp(disch:=omega)only[go_sem]) (by simp(disch:=omega)only[go_sem]) (by simp) (by simp) ⟨⟨m,hb,.inl ⟨h0,rfl,rfl⟩⟩,_,_,hi3,rfl⟩
   ·refine⟨⟨by simp,by simp(disch:=omega)only[go_sem]⟩,?_⟩
    simp(disch:=omega)only[go_sem]
    refine qh [(0,390000000)] [.own 1 (qb (lim m++zs))] [.own 0 [.sl l.length (ql l),.v (.int .i64 i3),.v (.int .i64 h3)]] [.ag [.rf 0 0 (lim m).length]] rfl (by simp(disch:=omega)only[go_sem]) (by simp(disch:=omega)only[go_sem]) (by simp) (by simp) ⟨⟨m,hb,.inr ⟨zs,rfl,rfl⟩⟩,_,_,hi3,rfl⟩
  ·simp(disch:=omega)only[go_sem]
   refine jR (zD l hl i3 h3 hi3 [0,1,2,9,10,65535,65536,1099511627776,4611686018427387903,4611686018427387904] (by simp) (by simp)) ?_
   rintro r i4 h4 hi4 ⟨x,hx,rfl⟩
   have hx_b:0≤x∧x≤4611686018427387904:=by
    simp only[List.mem_cons,List.not_mem_nil,or_false]at hx
    omega
   clear hx
   simp(disch:=omega)only[go_sem]
   obtain⟨n,rfl⟩:=Int.eq_ofNat_of_zero_le hx_b.1
   have hb:bl n≤1600:=Nat.le_trans (show bl n≤63 from zy.2 (by omega)) (by omega)
   refine qz (Y6 true n (by omega)) (by simp(disch:=omega)only[go_sem]) ?_
   rintro r hs (⟨h0,rfl,rfl⟩|⟨zs,rfl,rfl⟩)
   ·refine⟨⟨by simp,by simp(disch:=omega)only[go_sem]⟩,?_⟩
    simp(disch:=omega)only[go_sem]
    refine qh [] [] [.own 0 [.sl l.length (ql l),.v (.int .i64 i4),.v (.int .i64 h4)]] [.ag [.v (.slice none 0 0)]] rfl (by simp(disch:=omega)only[go_sem]) (by simp(disch:=omega)only[go_sem]) (by simp) (by simp) ⟨⟨n,hb,.inl ⟨h0,rfl,rfl⟩⟩,_,_,hi4,rfl⟩
   ·refine⟨⟨by simp,by simp(disch:=omega)only[go_sem]⟩,?_⟩
    simp(disch:=omega)only[go_sem]
    refine qh [(0,370000000)] [.own 1 (qb (lim n++zs))] [.own 0 [.sl l.length (ql l),.v (.int .i64 i4),.v (.int .i64 h4)]] [.ag [.rf 0 0 (lim n).length]] rfl (by simp(disch:=omega)only[go_sem]) (by simp(disch:=omega)only[go_sem]) (by simp) (by simp) ⟨⟨n,hb,.inr ⟨zs,rfl,rfl⟩⟩,_,_,hi4,rfl⟩
end
end Go.Ab
namespace Go.Ab
open Go Go.Proofs
end Go.Ab
namespace Go.Ab
open Go Go.Proofs
end Go.Ab
namespace Go.Ab
open Go Go.Proofs
def awV(s:Bool)(m e:Int):FlV:=if m<9007199254740991 then⟨1,s,m+1,e⟩else if e<971 then⟨1,s,4503599627370496,e+1⟩else⟨2,s,0,0⟩
def toV(k:Int)(s:Bool)(m e:Int):FlV:=if k=2 then⟨1,s,9007199254740991,971⟩else if 4503599627370496<m∨(e= -1074∧1<m)then⟨k,s,m-1,e⟩else if-1074<e then⟨k,s,9007199254740991,e-1⟩else⟨0,s,0,0⟩
def nxV(k:Int)(s:Bool)(m e:Int):FlV:=if k=3∨(k=2∧s=false)then⟨k,s,m,e⟩else if k=0 then⟨1,false,1, -1074⟩else if s=true then toV k s m e else awV s m e
def ulE(k e:Int):Int:=if k=0 then-1074 else e
end Go.Ab
namespace Go.Ab
structure Adj(k:Int)(s:Bool)(m e:Int)(n:FlV)(t:Bool)(a:Nat)(E:Int):Prop where
 ha:a<2^53
 hf:2^52≤a∨E= -1074
 hE: -1074≤E∧E≤971
 ho:¬(a+1=2^53∧E=971)
 hu:E≤ulE k e
 lo:dv 1074 (xS k s) m.toNat e=dv 1074 t (if t=true then a+1 else a) E
 hi:dv 1074 (xS n.k n.s) n.m.toNat n.e=dv 1074 t (if t=true then a else a+1) E
theorem beH:ngS 1 false=true:=rfl
theorem beF:ngS 1 true=false:=rfl
theorem beG:ngS 2 false=true:=rfl
end Go.Ab
namespace Go.Ab
open Go Go.Proofs
def bdO(ok:Bool):AV→List Ob→List Ob→Prop:=fun r hs bs=>hs=[]∧bs=[]∧∃(S:Bool) (M:Nat) (E:Int) (b:Bool),dyB S (lim M) E=true∧(ok=false→b=false)∧r=.tu [.ag [.v (.bool (S)),.sl (lim (M)).length (qb (lim (M))),.v (.int .i64 (E))],.v (.bool b)]
end Go.Ab
namespace Go.Ab
def ivM(s:Bool)(m:Nat)(e mode:Int):Nat:=roM s m e 0 mode*2^(roE m e 0).toNat
end Go.Ab
namespace Go.Ab
open Go Go.Proofs
end Go.Ab
namespace Go.Ab
open Go Go.Proofs
end Go.Ab
namespace Go.Ab
open Go Go.Proofs
end Go.Ab
namespace Go.Ab
open Go Go.Proofs
def beO(k m:Int):Nat:=if k=1 then oM m.toNat else 0
def beP(k m e:Int):Int:=if k=1 then oE m.toNat e else 0
def beN(k:Int)(s:Bool)(m:Int):Bool:=if k=1 then oS (s&&decide (m.toNat≠0)) m.toNat else false
end Go.Ab
namespace Go.Ab
open Go Go.Proofs
def bdN:AV→List Ob→List Ob→Prop:=fun r hs bs=>hs=[]∧bs=[]∧∃x:FlV,r=.ag x.cs
section
variable (l:List UInt8)(hl:l.length≤9223372036854775807)(i h:Int)(hi:0≤i∧i≤l.length)
include hl hi
end
end Go.Ab
namespace Go.Ab
open Go Go.Proofs
section
variable (l:List UInt8)(hl:l.length≤9223372036854775807)(i h:Int)(hi:0≤i∧i≤l.length)
include hl hi
end
end Go.Ab
namespace Go.Ab
open Go
end Go.Ab
namespace Go.Ab
open Go Go.Proofs
end Go.Ab
namespace Go.Ab
open Go Go.Proofs
end Go.Ab
namespace Go.Ab
open Go Go.Proofs
section
variable (l:List UInt8)(hl:l.length≤9223372036854775807)(i h:Int)(hi:0≤i∧i≤l.length)
include hl hi
end
theorem aaE(l:List UInt8)(hl:l.length≤9223372036854775807):Con Tryz.prog 75 false [.sl l.length (ql l)] [] (fun r hs bs=>r=.pt 0 0∧bs=[]∧∃h:Int,hs=[.own 0 [.sl l.length (ql l),.v (.int .i64 0),.v (.int .i64 h)]]):=by
 refine Con.of_aw Tryz.func75 rfl Tryz.ntmps75 (by simp) (by simp) (by simp) (W.sound ?_)
 show @W Tryz.prog 32 ⟨_⟩ ⟨fun x σ=>@qX _ _ _ ⟨_⟩ _ ⟨_⟩ x σ⟩ _ _
 simp(disch:=omega)only[go_sem]
 refine qj (fun x:Nat×Int=>[(0,.sl l.length (ql l)),(3,.v (.int .i64 x.2)),(4,.v (.int .i64 x.1))]) (fun _=>[]) (fun x=>x.1≤l.length) (fun x=>l.length-x.1) (0,IntKind.i64.wrap (38282+l.length)) (by simp)
  (Le.lst [] _ _ rfl (by simp(disch:=omega)only[go_sem]) (by simp(disch:=omega)only[go_sem])) ?_
 rintro⟨i,h⟩ hi
 dsimp only at hi ⊢
 have hfin:∀l':List AV,l'=[.pt 0 0]→(fun r hs bs=>r=.pt 0 0∧bs=[]∧∃h:Int,hs=[.own 0 [.sl l.length (ql l),.v (.int .i64 0),.v (.int .i64 h)]]:AV→List Ob→List Ob→Prop) (zk l') [.own 0 [.sl l.length (ql l),.v (.int .i64 0),.v (.int .i64 h)]] []:=fun l' e=>by subst e;exact⟨rfl,rfl,h,rfl⟩
 by_cases h1:(i:Int)<l.length
 ·by_cases h2:(i:Int)<4000
  ·simp(disch:=omega)only[go_sem,h1,h2]
   generalize IntKind.i64.wrap (IntKind.i64.wrap (IntKind.i64.wrap (h*131)+IntKind.i64.wrap ((l.getD i 0).toNat:Int))+7) % 1073741824=h'
   exact⟨⟨by omega,by omega⟩,by omega,qc (i+1,h') [] (by show i+1≤_;omega) (by show l.length-(i+1)<l.length-i;omega) rfl (by simp(disch:=omega)only[go_sem];try omega) (by simp(disch:=omega)only[go_sem])⟩
  ·simp(disch:=omega)only[go_sem,h1,h2]
   refine qh [(0,330000000)] [.own 0 [.sl l.length (ql l),.v (.int .i64 0),.v (.int .i64 h)]] [] [.pt 0 0] rfl (by simp(disch:=omega)only[go_sem]) (by simp(disch:=omega)only[go_sem]) (by simp) (by simp) (hfin _ rfl)
 ·simp(disch:=omega)only[go_sem,h1]
  refine qh [(0,330000000)] [.own 0 [.sl l.length (ql l),.v (.int .i64 0),.v (.int .i64 h)]] [] [.pt 0 0] rfl (by simp(disch:=omega)only[go_sem]) (by simp(disch:=omega)only[go_sem]) (by simp) (by simp) (hfin _ rfl)
end Go.Ab
namespace Go.Ab
open Go Go.Proofs
end Go.Ab
namespace Go.Ab
open Go Go.Proofs
end Go.Ab
namespace Go.Ab
open Go Go.Proofs
end Go.Ab
namespace Go.Ab
open Go Go.Proofs
end Go.Ab
namespace Go.Ab
open Go Go.Proofs
theorem JI{s:Bool}{m:Nat}(h:(lim m).length≤100)(hs:m=0→s=false):zO s (lim m)=true:=by
 unfold zO
 rw[apm m h,Bool.true_and]
 by_cases h0:m=0
 ·rw[hs h0];rfl
 ·have:=yO h0
  rw[decide_eq_false (show ¬(lim m).length=0 by omega),Bool.and_false];rfl
end Go.Ab
namespace Go.Ab
open Go Go.Proofs
def aY4(r:AV)(hs:List Ob)(xs:List Int):Prop:=(xs=[]∧r=.ag [.v (.slice none 0 0)]∧hs=[])∨∃zs,r=.ag [.rf 0 0 xs.length]∧hs=[.own 1 (qb (xs++zs))]
section
variable (l:List UInt8)(hl:l.length≤9223372036854775807)(i h:Int)(hi:0≤i∧i≤l.length)
include hl hi
theorem aeh:Con Tryz.prog 265 false [.pt 10000000 0] [.own 0 [.sl l.length (ql l),.v (.int .i64 i),.v (.int .i64 h)]] (fun r hs bs=>(∃xs:List Int,xs.length≤200∧aY4 r hs xs)∧∃i h:Int,(0≤i∧i≤l.length)∧bs=[.own 0 [.sl l.length (ql l),.v (.int .i64 i),.v (.int .i64 h)]]):=by
 refine Con.of_aw Tryz.func265 rfl Tryz.ntmps265 (by simp) (by simp) (by simp) (W.sound ?_)
 show @W Tryz.prog 43 ⟨_⟩ ⟨fun x σ=>@qX _ _ _ ⟨_⟩ _ ⟨_⟩ x σ⟩ _ _
 simp(disch:=omega)only[go_sem]
 refine yv false [10000000] (Yc l hl i h hi) (by simp(disch:=omega)only[go_sem]) (by simp(disch:=omega)only[go_sem]) rfl (qO (z:=0) (cs:=[.sl l.length (ql l),.v (.int .i64 i),.v (.int .i64 h)]) (by simp(disch:=omega)only[go_sem]) (by simp(disch:=omega)only[go_sem])) (by intro n hn;exact⟨_,List.mem_cons_self ..,by rw[List.mem_singleton.1 hn];rfl⟩) ?_
 rintro r hs bs ⟨⟨m,hb,(⟨h0,rfl,rfl⟩|⟨zs,rfl,rfl⟩)⟩,i1,h1,hi1,rfl⟩-
 ·refine⟨by simp[qP],?_⟩
  simp(disch:=omega)only[go_sem]
  refine qt (qR l hl i1 h1 hi1 9 (by omega)) ?_
  rintro r i2 h2 hi2 ⟨b,rfl⟩
  simp(disch:=omega)only[go_sem]
  cases b
  ·simp(disch:=omega)only[go_sem]
   refine qh [] [] [.own 0 [.sl l.length (ql l),.v (.int .i64 i2),.v (.int .i64 h2)]] [.ag [.v (.slice none 0 0)]] rfl (by simp(disch:=omega)only[go_sem]) (by simp(disch:=omega)only[go_sem]) (by simp) (by simp) ⟨⟨[],by simp,.inl ⟨rfl,rfl,rfl⟩⟩,_,_,hi2,rfl⟩
  ·simp(disch:=omega)only[go_sem]
   refine qt (qW l hl i2 h2 hi2 4 (by omega)) ?_
   rintro r i3 h3 hi3 ⟨q,hq,rfl⟩
   simp(disch:=omega)only[go_sem]
   by_cases c0:q=0
   ·simp(disch:=omega)only[go_sem,c0]
    refine qh [(0,280000000)] [.own 1 (qb ([0]++[]))] [.own 0 [.sl l.length (ql l),.v (.int .i64 i3),.v (.int .i64 h3)]] [.ag [.rf 0 0 1]] rfl (by simp(disch:=omega)only[go_sem]) (by simp(disch:=omega)only[go_sem];rfl) (by simp) (by simp) ⟨⟨[0],by simp,.inr ⟨[],rfl,rfl⟩⟩,_,_,hi3,rfl⟩
   by_cases c1:q=1
   ·simp(disch:=omega)only[go_sem,c0,c1]
    refine qh [(0,350000000)] [.own 1 (qb ([-1]++[]))] [.own 0 [.sl l.length (ql l),.v (.int .i64 i3),.v (.int .i64 h3)]] [.ag [.rf 0 0 1]] rfl (by simp(disch:=omega)only[go_sem]) (by simp(disch:=omega)only[go_sem];rfl) (by simp) (by simp) ⟨⟨[-1],by simp,.inr ⟨[],rfl,rfl⟩⟩,_,_,hi3,rfl⟩
   by_cases c2:q=2
   ·simp(disch:=omega)only[go_sem,c0,c1,c2]
    refine qh [(0,420000000)] [.own 1 (qb ([65536]++[]))] [.own 0 [.sl l.length (ql l),.v (.int .i64 i3),.v (.int .i64 h3)]] [.ag [.rf 0 0 1]] rfl (by simp(disch:=omega)only[go_sem]) (by simp(disch:=omega)only[go_sem];rfl) (by simp) (by simp) ⟨⟨[65536],by simp,.inr ⟨[],rfl,rfl⟩⟩,_,_,hi3,rfl⟩
   simp(disch:=omega)only[go_sem,c0,c1,c2]
   refine qj (fun x:List Int×List Int=>[(2,.pt 4 0),(3,.pt 3 0)]) (fun x=>[(1,.own 1 (qb (x.1++x.2))),(3,.own 0 [.rf 1 0 x.1.length]),(4,.own 0 [.v (.slice none 0 0)]),(10000000,.own 0 [.sl l.length (ql l),.v (.int .i64 i3),.v (.int .i64 h3)])])
    (fun x=>x.1.length≤101) (fun x=>101-x.1.length) ([],[])
    (by simp) ((Le.ghostC 50000000 0 1 1 (zo:=0) (cs:=[.v (.slice none 0 0)]) (by simp(disch:=omega)only[go_sem]) rfl (by simp(disch:=omega)only[go_sem])).trans (Le.lst [(3,50000000),(4,40000000)] _ _ rfl (by simp(disch:=omega)only[go_sem]) (by simp(disch:=omega)only[go_sem,List.set_cons_zero]))) ?_
   rintro⟨xs,ys⟩ hx
   dsimp only at hx ⊢
   simp(disch:=omega)only[go_sem]
   refine qe (fun c3=>?_) (fun c3=>?_)
   ·simp(disch:=omega)only[go_sem,c3]
    exact⟨⟨by simp,by omega⟩,qc (xs++[1],[]) [(1,210000000)] (by simp;omega) (by simp;omega) rfl (by simp(disch:=omega)only[go_sem,List.length_append];try omega) (by simp(disch:=omega)only[go_sem,List.length_append,List.append_nil,List.take_left])⟩
   ·simp(disch:=omega)only[go_sem,c3]
    refine qh [(0,1)] [.own 1 (qb (xs++ys))] [.own 0 [.sl l.length (ql l),.v (.int .i64 i3),.v (.int .i64 h3)]] [.ag [.rf 0 0 xs.length]] rfl (by simp(disch:=omega)only[go_sem]) (by simp(disch:=omega)only[go_sem]) (by simp) (by simp) ⟨⟨xs,by omega,.inr ⟨ys,rfl,rfl⟩⟩,_,_,hi3,rfl⟩
 ·have hx:=qy (m:=m) (B:=1600) hb
  refine⟨by simp[qP];simp(disch:=omega)only[go_sem],?_⟩
  simp(disch:=omega)only[go_sem]
  refine qt (qR l hl i1 h1 hi1 9 (by omega)) ?_
  rintro r i2 h2 hi2 ⟨b,rfl⟩
  simp(disch:=omega)only[go_sem]
  cases b
  ·simp(disch:=omega)only[go_sem]
   refine qh [(0,70000000)] [.own 1 (qb (lim m++zs))] [.own 0 [.sl l.length (ql l),.v (.int .i64 i2),.v (.int .i64 h2)]] [.ag [.rf 0 0 (lim m).length]] rfl (by simp(disch:=omega)only[go_sem]) (by simp(disch:=omega)only[go_sem]) (by simp) (by simp) ⟨⟨lim m,by have:=qy (m:=m) (B:=1600) hb;omega,.inr ⟨zs,rfl,rfl⟩⟩,_,_,hi2,rfl⟩
  ·simp(disch:=omega)only[go_sem]
   refine qt (qW l hl i2 h2 hi2 4 (by omega)) ?_
   rintro r i3 h3 hi3 ⟨q,hq,rfl⟩
   simp(disch:=omega)only[go_sem]
   by_cases c0:q=0
   ·simp(disch:=omega)only[go_sem,c0]
    exact⟨⟨by simp,by omega⟩,qh [(0,280000000)] [.own 1 (qb (lim m++[0]++[]))] [.own 0 [.sl l.length (ql l),.v (.int .i64 i3),.v (.int .i64 h3)]] [.ag [.rf 0 0 ((lim m).length+1)]] rfl (by simp(disch:=omega)only[go_sem]) (by simp(disch:=omega)only[go_sem,List.take_left',List.append_nil]) (by simp) (by simp) ⟨⟨lim m++[0],by simp;omega,.inr ⟨[],by rw[List.length_append];rfl,rfl⟩⟩,_,_,hi3,rfl⟩⟩
   by_cases c1:q=1
   ·simp(disch:=omega)only[go_sem,c0,c1]
    exact⟨⟨by simp,by omega⟩,qh [(0,350000000)] [.own 1 (qb (lim m++[-1]++[]))] [.own 0 [.sl l.length (ql l),.v (.int .i64 i3),.v (.int .i64 h3)]] [.ag [.rf 0 0 ((lim m).length+1)]] rfl (by simp(disch:=omega)only[go_sem]) (by simp(disch:=omega)only[go_sem,List.take_left',List.append_nil]) (by simp) (by simp) ⟨⟨lim m++[-1],by simp;omega,.inr ⟨[],by rw[List.length_append];rfl,rfl⟩⟩,_,_,hi3,rfl⟩⟩
   by_cases c2:q=2
   ·simp(disch:=omega)only[go_sem,c0,c1,c2]
    exact⟨⟨by simp,by omega⟩,qh [(0,420000000)] [.own 1 (qb (lim m++[65536]++[]))] [.own 0 [.sl l.length (ql l),.v (.int .i64 i3),.v (.int .i64 h3)]] [.ag [.rf 0 0 ((lim m).length+1)]] rfl (by simp(disch:=omega)only[go_sem]) (by simp(disch:=omega)only[go_sem,List.take_left',List.append_nil]) (by simp) (by simp) ⟨⟨lim m++[65536],by simp;omega,.inr ⟨[],by rw[List.length_append];rfl,rfl⟩⟩,_,_,hi3,rfl⟩⟩
   simp(disch:=omega)only[go_sem,c0,c1,c2]
   refine qj (fun x:List Int×List Int=>[(2,.pt 4 0),(3,.pt 3 0)]) (fun x=>[(1,.own 1 (qb (x.1++x.2))),(3,.own 0 [.rf 1 0 x.1.length]),(4,.own 0 [.v (.slice none 0 0)]),(10000000,.own 0 [.sl l.length (ql l),.v (.int .i64 i3),.v (.int .i64 h3)])])
    (fun x=>x.1.length≤101) (fun x=>101-x.1.length) (lim m,zs)
    (by show(lim m).length≤101;omega) (Le.lst [(3,50000000),(4,40000000),(1,70000000)] _ _ rfl (by simp(disch:=omega)only[go_sem]) (by simp(disch:=omega)only[go_sem])) ?_
   rintro⟨xs,ys⟩ hx
   dsimp only at hx ⊢
   simp(disch:=omega)only[go_sem]
   refine qe (fun c3=>?_) (fun c3=>?_)
   ·simp(disch:=omega)only[go_sem,c3]
    exact⟨⟨by simp,by omega⟩,qc (xs++[1],[]) [(1,210000000)] (by simp;omega) (by simp;omega) rfl (by simp(disch:=omega)only[go_sem,List.length_append];try omega) (by simp(disch:=omega)only[go_sem,List.length_append,List.append_nil,List.take_left])⟩
   ·simp(disch:=omega)only[go_sem,c3]
    refine qh [(0,1)] [.own 1 (qb (xs++ys))] [.own 0 [.sl l.length (ql l),.v (.int .i64 i3),.v (.int .i64 h3)]] [.ag [.rf 0 0 xs.length]] rfl (by simp(disch:=omega)only[go_sem]) (by simp(disch:=omega)only[go_sem]) (by simp) (by simp) ⟨⟨xs,by omega,.inr ⟨ys,rfl,rfl⟩⟩,_,_,hi3,rfl⟩
omit hi hl in
theorem Con.cur{f:Nat}{args:List AV}{Q:AV→List Ob→Prop}{Q':AV→Prop}(hc:Con Tryz.prog f false args [.own 0 [.sl l.length (ql l),.v (.int .i64 i),.v (.int .i64 h)]] (fun r hs bs=>Q r hs∧∃i h:Int,(0≤i∧i≤l.length)∧bs=[.own 0 [.sl l.length (ql l),.v (.int .i64 i),.v (.int .i64 h)]]))
  (hq:∀r hs,Q r hs→(∀ob∈hs,ob.men fun _=>False)∧Q' (qF (rhp hs []) 6 r)):Con Tryz.prog f false args [.own 0 [.sl l.length (ql l),.v (.int .i64 i),.v (.int .i64 h)]] (Xn l Q'):=
 (Con.frzB hc (by
  rintro r hs bs ⟨h1,i,h, -,rfl⟩
  exact⟨by simp[Ob.men,AllL,AV.All],(hq r hs h1).1⟩)).mono fun r hs bs=>by
   rintro⟨rfl,r0,hs0,⟨h1,h2⟩,rfl⟩
   exact⟨rfl,(hq _ _ h1).2,h2⟩
omit hi hl in
theorem Con.curF{f:Nat}{args:List AV}{Q Q':AV→Prop}(hc:Con Tryz.prog f false args [.own 0 [.sl l.length (ql l),.v (.int .i64 i),.v (.int .i64 h)]] (Xn l Q))(hq:∀r,Q r→Q' (qF (rhp [] []) 6 r)):
  Con Tryz.prog f false args [.own 0 [.sl l.length (ql l),.v (.int .i64 i),.v (.int .i64 h)]] (Xn l Q'):=
 Con.cur l i h (Q:=fun r hs=>hs=[]∧Q r) (hc.mono fun r hs bs ⟨h1,h2,h3⟩=>⟨⟨h1,h2⟩,h3⟩) fun r hs ⟨h1,h2⟩=>by subst h1;exact⟨by simp,hq r h2⟩
omit hi hl in
theorem Zi{r:AV}{hs:List Ob}{xs:List Int}(h:aY4 r hs xs):(∀ob∈hs,ob.men fun _=>False)∧qF (rhp hs []) 6 r=.ag [.sl xs.length (qb xs)]:=by
 rcases h with⟨rfl,rfl,rfl⟩|⟨zs,rfl,rfl⟩
 ·exact⟨by simp,rfl⟩
 ·refine⟨by intro ob ho;rw[List.mem_singleton.1 ho];exact Zm,?_⟩
  show AV.ag [qF _ 5 (.rf 0 0 xs.length)]=_
  rw[jT zl rfl]
theorem aeg:Con Tryz.prog 282 false [.pt 10000000 0] [.own 0 [.sl l.length (ql l),.v (.int .i64 i),.v (.int .i64 h)]] (Xn l fun r=>∃m:Nat,bl m≤1600∧r=.ag [.sl (lim (m)).length (qb (lim (m)))]):=
 Con.cur l i h (Yc l hl i h hi) fun r hs ⟨m,hb,hr⟩=>by
  have:aY4 r hs (lim m):=hr.elim (fun⟨h0,h1,h2⟩=>.inl ⟨by rw[h0,qm],h1,h2⟩) .inr
  exact⟨(Zi this).1,m,hb,(Zi this).2⟩
theorem ajT:Con Tryz.prog 265 false [.pt 10000000 0] [.own 0 [.sl l.length (ql l),.v (.int .i64 i),.v (.int .i64 h)]] (Xn l fun r=>∃xs:List Int,xs.length≤200∧r=.ag [.sl xs.length (qb xs)]):=
 Con.cur l i h (aeh l hl i h hi) fun r hs ⟨xs,hb,hr⟩=>⟨(Zi hr).1,xs,hb,(Zi hr).2⟩
theorem J9:Con Tryz.prog 264 false [.pt 10000000 0] [.own 0 [.sl l.length (ql l),.v (.int .i64 i),.v (.int .i64 h)]] (Xn l fun r=>∃(s:Bool) (m:Nat),bl m≤1600∧r=.ag [.v (.bool (s&&decide (m≠0))),.sl (lim (m)).length (qb (lim (m)))]):=by
 refine Con.of_aw Tryz.func264 rfl Tryz.ntmps264 (by simp) (by simp) (by simp) (W.sound ?_)
 show @W Tryz.prog 8 ⟨_⟩ ⟨fun x σ=>@qX _ _ _ ⟨_⟩ _ ⟨_⟩ x σ⟩ _ _
 simp(disch:=omega)only[go_sem]
 refine qt (qR l hl i h hi 2 (by omega)) ?_
 rintro r i1 h1 hi1 ⟨b,rfl⟩
 simp(disch:=omega)only[go_sem]
 refine qt (aeg l hl i1 h1 hi1) ?_
 rintro r i2 h2 hi2 ⟨m,hm,rfl⟩
 simp(disch:=omega)only[go_sem]
 have hx:=qy (m:=m) (B:=1600) hm
 refine qa (zv b m (by omega)) ?_
 simp(disch:=omega)only[go_sem]
 refine qM (i2) (h2) ⟨b,m,hm,rfl⟩
theorem ajR:Con Tryz.prog 221 false [.pt 10000000 0] [.own 0 [.sl l.length (ql l),.v (.int .i64 i),.v (.int .i64 h)]] (Xn l fun r=>∃(s:Bool) (xs:List Int),xs.length≤200∧r=.ag [.v (.bool s),.sl xs.length (qb xs)]):=by
 refine Con.curF (Q:=fun r=>∃(s:Bool) (xs:List Int),xs.length≤200∧(r=.ag [.v (.bool s),.sl xs.length (qb xs)]∨(xs=[]∧r=.ag [.v (.bool s),.v (.slice none 0 0)]))) l i h ?_ (fun r ⟨s,xs,h1,h2⟩=>⟨s,xs,h1,h2.elim (fun h=>by rw[h];rfl) fun⟨h,h'⟩=>by rw[h,h'];rfl⟩)
 refine Con.of_aw Tryz.func221 rfl Tryz.ntmps221 (by simp) (by simp) (by simp) (W.sound ?_)
 show @W Tryz.prog 15 ⟨_⟩ ⟨fun x σ=>@qX _ _ _ ⟨_⟩ _ ⟨_⟩ x σ⟩ _ _
 simp(disch:=omega)only[go_sem]
 refine qt (J9 l hl i h hi) ?_
 rintro r i1 h1 hi1 ⟨s,m,hm,rfl⟩
 simp(disch:=omega)only[go_sem]
 have hx:=qy (m:=m) (B:=1600) hm
 refine qt (qR l hl i1 h1 hi1 9 (by omega)) ?_
 rintro r i2 h2 hi2 ⟨b,rfl⟩
 simp(disch:=omega)only[go_sem]
 cases b
 ·simp(disch:=omega)only[go_sem]
  refine qM (i2) (h2) ⟨_,lim m,by omega,.inl rfl⟩
 ·simp(disch:=omega)only[go_sem]
  refine qt (qR l hl i2 h2 hi2 2 (by omega)) ?_
  rintro r i3 h3 hi3 ⟨b,rfl⟩
  simp(disch:=omega)only[go_sem]
  cases b
  ·simp(disch:=omega)only[go_sem]
   refine qt (ajT l hl i3 h3 hi3) ?_
   rintro r i4 h4 hi4 ⟨xs,hxs,rfl⟩
   simp(disch:=omega)only[go_sem]
   refine qM (i4) (h4) ⟨_,xs,hxs,.inl rfl⟩
  ·simp(disch:=omega)only[go_sem]
   refine qM (i3) (h3) ⟨true,[],by simp,.inr ⟨rfl,rfl⟩⟩
omit hi hl in
theorem YX:AV.ag [.v (.bool false),.sl 0 [],.v (.int .i64 0)]=.ag [.v (.bool (ex0).s),.sl (lim (ex0).m).length (qb (lim (ex0).m)),.v (.int .i64 (ex0).e)]:=by
 show _=AV.ag [.v (.bool false),.sl (lim 0).length (qb (lim 0)),.v (.int .i64 0)]
 rw[qm];rfl
omit hi hl in
theorem Qr(x:ExV)(h:zO x.s (lim x.m)=true)(he: -12000≤x.e∧x.e≤12000):Con Tryz.prog 126 false [.ag [.v (.bool (x.s)),.sl (lim (x.m)).length (qb (lim (x.m)))],.v (.int .i64 x.e)] [] (isA (.tu [.ag [.v (.bool (x.tel).s),.sl (lim (x.tel).m).length (qb (lim (x.tel).m)),.v (.int .i64 (x.tel).e)],.v (.bool x.fit)])):=by
 have c:=aaQ x.s x.m x.e h he
 rw[show yo x.m x.e=x.fit from rfl]at c
 unfold ExV.tel
 cases hf:x.fit<;>rw[hf]at c<;>exact c
omit hi hl in
theorem aKA{m:Nat}(h:bl m≤1600):(lim m).length≤100:=jB.2 (Nat.lt_of_lt_of_eq (zy.1 h) (by decide+kernel))
theorem QQ:Con Tryz.prog 220 false [.pt 10000000 0] [.own 0 [.sl l.length (ql l),.v (.int .i64 i),.v (.int .i64 h)]] (Xn l fun r=>∃x:ExV,x.ok=true∧r=.ag [.v (.bool (x).s),.sl (lim (x).m).length (qb (lim (x).m)),.v (.int .i64 (x).e)]):=by
 refine Con.curF (Q:=fun r=>∃x:ExV,x.ok=true∧qF (rhp [] []) 6 r=.ag [.v (.bool (x).s),.sl (lim (x).m).length (qb (lim (x).m)),.v (.int .i64 (x).e)]) l i h ?_ fun _ h=>h
 refine Con.of_aw Tryz.func220 rfl Tryz.ntmps220 (by simp) (by simp) (by simp) (W.sound ?_)
 show @W Tryz.prog 33 ⟨_⟩ ⟨fun x σ=>@qX _ _ _ ⟨_⟩ _ ⟨_⟩ x σ⟩ _ _
 simp(disch:=omega)only[go_sem]
 refine qt (J9 l hl i h hi) ?_
 rintro r i1 h1 hi1 ⟨s,m,hm,rfl⟩
 simp(disch:=omega)only[go_sem]
 have hx:=qy (m:=m) (B:=1600) hm
 refine qt (qR l hl i1 h1 hi1 3 (by omega)) ?_
 rintro r i2 h2 hi2 ⟨b,rfl⟩
 simp(disch:=omega)only[go_sem]
 have ww:∀(s:Bool) (m:Nat),bl m≤1600→zO (s&&decide (m≠0)) (lim m)=true:=fun s m hm=>JI (aKA hm) (by intro h;simp[h])
 cases b
 ·simp(disch:=omega)only[go_sem]
  refine qt (qW l hl i2 h2 hi2 24 (by omega)) ?_
  rintro r i3 h3 hi3 ⟨k,hk,rfl⟩
  simp(disch:=omega)only[go_sem]
  have hk2:=hk.2 (by omega)
  refine qt (qR l hl i3 h3 hi3 6 (by omega)) ?_
  rintro r i4 h4 hi4 ⟨b,rfl⟩
  simp(disch:=omega)only[go_sem]
  cases b
  ·simp(disch:=omega)only[go_sem]
   refine qa (Qr ⟨s&&decide (m≠0),m,k-12⟩ (ww s m hm) (by show-12000≤k-12∧k-12≤12000;omega)) ?_
   simp(disch:=omega)only[go_sem]
   have ok:=aeN ⟨s&&decide (m≠0),m,k-12⟩
   generalize ExV.tel ⟨s&&decide (m≠0),m,k-12⟩=y at*
   cases hf:ExV.fit ⟨s&&decide (m≠0),m,k-12⟩
   ·simp(disch:=omega)only[go_sem,hf]
    refine qM (i4) (h4) ⟨ex0,J0,by simp(disch:=omega)only[go_sem];exact YX⟩
   ·simp(disch:=omega)only[go_sem,hf]
    refine qM (i4) (h4) ⟨y,ok,by simp(disch:=omega)only[go_sem]⟩
  ·simp(disch:=omega)only[go_sem]
   refine jR (zD l hl i4 h4 hi4 [0, -60,60, -1074,900, -2990,2990, -100] (by simp) (by simp)) ?_
   rintro r i5 h5 hi5 ⟨x,hx,rfl⟩
   have hx_b: -3000≤x∧x≤3000:=by
    simp only[List.mem_cons,List.not_mem_nil,or_false]at hx
    omega
   clear hx
   simp(disch:=omega)only[go_sem]
   refine qa (Qr ⟨s&&decide (m≠0),m,x⟩ (ww s m hm) (by show-12000≤x∧x≤12000;omega)) ?_
   simp(disch:=omega)only[go_sem]
   have ok:=aeN ⟨s&&decide (m≠0),m,x⟩
   generalize ExV.tel ⟨s&&decide (m≠0),m,x⟩=y at*
   cases hf:ExV.fit ⟨s&&decide (m≠0),m,x⟩
   ·simp(disch:=omega)only[go_sem,hf]
    refine qM (i5) (h5) ⟨ex0,J0,by simp(disch:=omega)only[go_sem];exact YX⟩
   ·simp(disch:=omega)only[go_sem,hf]
    refine qM (i5) (h5) ⟨y,ok,by simp(disch:=omega)only[go_sem]⟩
 ·simp(disch:=omega)only[go_sem]
  refine qt (qW l hl i2 h2 hi2 40 (by omega)) ?_
  rintro r i3 h3 hi3 ⟨q,hq,rfl⟩
  simp(disch:=omega)only[go_sem]
  have hq2:=hq.2 (by omega)
  refine qa (Y5 (q-20) (by omega)) ?_
  simp(disch:=omega)only[go_sem]
  have wq:zO (decide (q-20<0)) (lim (q-20).natAbs)=true:=JI (by have:=qy (m:=(q-20).natAbs) (B:=6) (zy.2 (by omega));omega) (by intro h;simp;omega)
  refine qt (qW l hl i3 h3 hi3 24 (by omega)) ?_
  rintro r i4 h4 hi4 ⟨k,hk,rfl⟩
  simp(disch:=omega)only[go_sem]
  have hk2:=hk.2 (by omega)
  refine qt (qR l hl i4 h4 hi4 6 (by omega)) ?_
  rintro r i5 h5 hi5 ⟨b,rfl⟩
  simp(disch:=omega)only[go_sem]
  cases b
  ·simp(disch:=omega)only[go_sem]
   refine qa (Qr ⟨decide (q-20<0),(q-20).natAbs,k-12⟩ (wq) (by show-12000≤k-12∧k-12≤12000;omega)) ?_
   simp(disch:=omega)only[go_sem]
   have ok:=aeN ⟨decide (q-20<0),(q-20).natAbs,k-12⟩
   generalize ExV.tel ⟨decide (q-20<0),(q-20).natAbs,k-12⟩=y at*
   cases hf:ExV.fit ⟨decide (q-20<0),(q-20).natAbs,k-12⟩
   ·simp(disch:=omega)only[go_sem,hf]
    refine qM (i5) (h5) ⟨ex0,J0,by simp(disch:=omega)only[go_sem];exact YX⟩
   ·simp(disch:=omega)only[go_sem,hf]
    refine qM (i5) (h5) ⟨y,ok,by simp(disch:=omega)only[go_sem]⟩
  ·simp(disch:=omega)only[go_sem]
   refine jR (zD l hl i5 h5 hi5 [0, -60,60, -1074,900, -2990,2990, -100] (by simp) (by simp)) ?_
   rintro r i6 h6 hi6 ⟨x,hx,rfl⟩
   have hx_b: -3000≤x∧x≤3000:=by
    simp only[List.mem_cons,List.not_mem_nil,or_false]at hx
    omega
   clear hx
   simp(disch:=omega)only[go_sem]
   refine qa (Qr ⟨decide (q-20<0),(q-20).natAbs,x⟩ (wq) (by show-12000≤x∧x≤12000;omega)) ?_
   simp(disch:=omega)only[go_sem]
   have ok:=aeN ⟨decide (q-20<0),(q-20).natAbs,x⟩
   generalize ExV.tel ⟨decide (q-20<0),(q-20).natAbs,x⟩=y at*
   cases hf:ExV.fit ⟨decide (q-20<0),(q-20).natAbs,x⟩
   ·simp(disch:=omega)only[go_sem,hf]
    refine qM (i6) (h6) ⟨ex0,J0,by simp(disch:=omega)only[go_sem];exact YX⟩
   ·simp(disch:=omega)only[go_sem,hf]
    refine qM (i6) (h6) ⟨y,ok,by simp(disch:=omega)only[go_sem]⟩
theorem ajP:Con Tryz.prog 154 false [.pt 10000000 0] [.own 0 [.sl l.length (ql l),.v (.int .i64 i),.v (.int .i64 h)]] (Xn l fun r=>∃d:DyV,d.xs.length≤200∧r=.ag d.cs):=by
 refine Con.of_aw Tryz.func154 rfl Tryz.ntmps154 (by simp) (by simp) (by simp) (W.sound ?_)
 show @W Tryz.prog 28 ⟨_⟩ ⟨fun x σ=>@qX _ _ _ ⟨_⟩ _ ⟨_⟩ x σ⟩ _ _
 simp(disch:=omega)only[go_sem]
 refine qt (QQ l hl i h hi) ?_
 rintro r i1 h1 hi1 ⟨x,hx,rfl⟩
 simp(disch:=omega)only[go_sem]
 have lx:=(zz hx).2.2.1
 refine qt (qR l hl i1 h1 hi1 9 (by omega)) ?_
 rintro r i2 h2 hi2 ⟨b,rfl⟩
 simp(disch:=omega)only[go_sem]
 cases b
 ·simp(disch:=omega)only[go_sem]
  refine qM (i2) (h2) ⟨⟨x.s,lim x.m,x.e⟩,by show(lim x.m).length≤200;omega,rfl⟩
 ·simp(disch:=omega)only[go_sem]
  refine qt (qW l hl i2 h2 hi2 3 (by omega)) ?_
  rintro r i3 h3 hi3 ⟨q,hq,rfl⟩
  simp(disch:=omega)only[go_sem]
  by_cases c0:q=0
  ·simp(disch:=omega)only[go_sem,c0]
   refine jR (zD l hl i3 h3 hi3 [-3001,3001,3000,4611686018427387904] (by simp) (by simp)) ?_
   rintro r i4 h4 hi4 ⟨y,hy,rfl⟩
   clear hy
   simp(disch:=omega)only[go_sem]
   refine qM (i4) (h4) ⟨⟨x.s,lim x.m,y⟩,by show(lim x.m).length≤200;omega,rfl⟩
  by_cases c1:q=1
  ·simp(disch:=omega)only[go_sem,c0,c1]
   refine qt (ajR l hl i3 h3 hi3) ?_
   rintro r i4 h4 hi4 ⟨s,xs,hxs,rfl⟩
   simp(disch:=omega)only[go_sem]
   refine qM (i4) (h4) ⟨⟨s,xs,x.e⟩,hxs,rfl⟩
  simp(disch:=omega)only[go_sem,c0,c1]
  refine qM (i3) (h3) ⟨⟨!x.s,lim x.m,x.e⟩,by show(lim x.m).length≤200;omega,rfl⟩
end
theorem ajQ(x y:ExV)(hx:x.bd (-400000) 400000)(hy:y.bd (-400000) 400000):Con Tryz.prog 192 false [.ag [.v (.bool (x).s),.sl (lim (x).m).length (qb (lim (x).m)),.v (.int .i64 (x).e)],.ag [.v (.bool (y).s),.sl (lim (y).m).length (qb (lim (y).m)),.v (.int .i64 (y).e)]] [] (isA (.ag [.v (.bool ((x.plus y).can).s),.sl (lim ((x.plus y).can).m).length (qb (lim ((x.plus y).can).m)),.v (.int .i64 ((x.plus y).can).e)])):=by
 obtain⟨z1,a1,a2⟩:=hx
 obtain⟨z2,b1,b2⟩:=hy
 exact aqx x.s x.m x.e y.s y.m y.e (by omega) (by omega) (by omega) (by omega) z1 z2
end Go.Ab
namespace Go.Ab
open Go
def z3:List AV:=[.v (.bool false),.v (.slice none 0 0),.v (.int .i64 0)]
def z6:List AV:=[.v (.bool false),.v (.slice none 0 0),.v (.int .i64 0),.v (.bool false),.v (.slice none 0 0),.v (.int .i64 0)]
section
variable {X:Type}{f:X→List AV}{z:Nat}{n:Nat}{zs:List AV}{ρ:Nat→Nat}{p:Nat→Prop}
theorem aeB(h:zK ρ zs=zs):zK ρ (jv n zs)=jv n zs:=by
 unfold jv
 induction n with
 |zero=>rfl
 |succ n ih=>
  rw[List.replicate_succ,List.flatten_cons]
  have:∀a b:List AV,zK ρ (a++b)=zK ρ a++zK ρ b:=fun a b=>by simp[qS]
  rw[this,h,ih]
theorem aeC(h:AllL p zs):AllL p (jv n zs):=by
 unfold jv
 induction n with
 |zero=>simp[AllL]
 |succ n ih=>rw[List.replicate_succ,List.flatten_cons];exact AllL.append h ih
theorem aM3:zK ρ (jv n z3)=jv n z3:=aeB rfl
theorem aM5:AllL p (jv n z3)=True:=eq_true (aeC (by simp[z3,AllL,AV.All]))
theorem aM4:(jv n z3).length=n*3:=zr n z3
theorem aM0:zK ρ (jv n z6)=jv n z6:=aeB rfl
theorem aM2:AllL p (jv n z6)=True:=eq_true (aeC (by simp[z6,AllL,AV.All]))
theorem aM1:(jv n z6).length=n*6:=zr n z6
theorem aBc{a b:List AV}:zK ρ (a++b)=zK ρ a++zK ρ b:=by simp[qS]
theorem aDy{a b:List AV}:AllL p (a++b)=(AllL p a∧AllL p b):=propext ⟨fun h=>by
 induction a with
 |nil=>exact⟨by simp[AllL],h⟩
 |cons x r ih=>exact⟨⟨h.1,(ih h.2).1⟩,(ih h.2).2⟩,fun h=>AllL.append h.1 h.2⟩
end
attribute [go_sem] aM3 aM5 aM4 aM0 aM2 aM1 aBc aDy
end Go.Ab
namespace Go.Ab
open Go Go.Proofs
section
variable (l:List UInt8)(hl:l.length≤9223372036854775807)(i h:Int)(hi:0≤i∧i≤l.length)
include hl hi
def beK(r:AV):Prop:=∃(n:Int) (l:List DyV),l.length≤16∧(∀d∈l,d.xs.length≤200)∧r=.ag [.v (.int .i64 n),.sl l.length (qu DyV.cs l)]
omit hl hi in
omit hl hi in
def bep(n:Nat)(r:AV)(hs:List Ob):Prop:=∃(k:Int) (M:List DyV) (o m:Nat),M.length=o+m∧o≤1∧M.length=n*n∧(∀d∈M,d.xs.length≤200)∧r=.ag [.v (.int .i64 k),.rf 0 (o*3) m]∧hs=[.own 3 (qu DyV.cs M)]
end
end Go.Ab
namespace Go.Ab
open Go Go.Proofs
/-! ### Minors and determinants-/
def mnC(n:Nat)(l:List ExV)(r c i:Nat):Nat→List ExV
 |0=>[]
 |j+1=>if i≠r∧j≠c then mnC n l r c i j++[l.getD (i*n+j) ex0]else mnC n l r c i j
def mnR(n:Nat)(l:List ExV)(r c:Nat):Nat→List ExV
 |0=>[]
 |i+1=>mnR n l r c i++mnC n l r c i n
def ExV.sgn(x:ExV)(k:Nat):ExV:=if k % 2=1 then x.neg else x
def bbP:Nat→List ExV→ExV
 |0,_=>ex1
 |n+1,l=>(List.range (n+1)).foldl (fun s j=>s.plus (((l.getD (0*(n+1)+j) ex0).times (bbP n (mnR (n+1) l 0 j (n+1)))).sgn j)) ex0
end Go.Ab
namespace Go.Ab
open Go Go.Proofs
theorem J8(x y:ExV)(hx:x.ok=true)(hy:y.ok=true):Con Tryz.prog 132 true [.ag [.v (.bool (x).s),.sl (lim (x).m).length (qb (lim (x).m)),.v (.int .i64 (x).e)],.ag [.v (.bool (y).s),.sl (lim (y).m).length (qb (lim (y).m)),.v (.int .i64 (y).e)]] [] (isA (.v (.int .i64 (zf (x.val 3000) (y.val 3000))))):=by
 obtain⟨a1,a2,a3,a4,a5⟩:=zz hx
 obtain⟨b1,b2,b3,b4,b5⟩:=zz hy
 exact aaB 3000 x.s x.m x.e y.s y.m y.e (by omega) (by omega) (by omega) (by omega) (by omega) (by omega) (fun h=>(a4 h).1) (fun h=>(b4 h).1)
def Za(x y:ExV):ExV:=if x.val 3000≤y.val 3000 then x else y
def Q9(x y:ExV):ExV:=if y.val 3000≤x.val 3000 then x else y
theorem QO(x y:ExV)(hx:x.ok=true)(hy:y.ok=true):Con Tryz.prog 238 false [.ag [.v (.bool (x).s),.sl (lim (x).m).length (qb (lim (x).m)),.v (.int .i64 (x).e)],.ag [.v (.bool (y).s),.sl (lim (y).m).length (qb (lim (y).m)),.v (.int .i64 (y).e)]] [] (isA (.ag [.v (.bool (Za x y).s),.sl (lim (Za x y).m).length (qb (lim (Za x y).m)),.v (.int .i64 (Za x y).e)])):=by
 refine Con.frzA ?_
 have e1:decide (zf (x.val 3000) (y.val 3000)≤0)=decide (x.val 3000≤y.val 3000):=decide_eq_decide.2 (j0 _ _).1
 unfold Za
 refine Con.of_w (rs:=[.cell 4 40]) Tryz.func238 rfl Tryz.ntmps238 rfl ?_
 simp(disch:=omega)only[go_sem]
 refine qi (J8 x y hx hy) ?_
 simp(disch:=omega)only[go_sem]
 by_cases h:x.val 3000≤y.val 3000
 ·simp(disch:=omega)only[go_sem,e1,decide_eq_true h]
  rw[if_pos h]
  exact qk
 ·simp(disch:=omega)only[go_sem,e1,decide_eq_false h]
  rw[if_neg h]
  exact qk
theorem QN(x y:ExV)(hx:x.ok=true)(hy:y.ok=true):Con Tryz.prog 239 false [.ag [.v (.bool (x).s),.sl (lim (x).m).length (qb (lim (x).m)),.v (.int .i64 (x).e)],.ag [.v (.bool (y).s),.sl (lim (y).m).length (qb (lim (y).m)),.v (.int .i64 (y).e)]] [] (isA (.ag [.v (.bool (Q9 x y).s),.sl (lim (Q9 x y).m).length (qb (lim (Q9 x y).m)),.v (.int .i64 (Q9 x y).e)])):=by
 refine Con.frzA ?_
 have e1:decide (0≤zf (x.val 3000) (y.val 3000))=decide (y.val 3000≤x.val 3000):=decide_eq_decide.2 (by unfold zf;split<;>(try split)<;>omega)
 unfold Q9
 refine Con.of_w (rs:=[.cell 4 40]) Tryz.func239 rfl Tryz.ntmps239 rfl ?_
 simp(disch:=omega)only[go_sem]
 refine qi (J8 x y hx hy) ?_
 simp(disch:=omega)only[go_sem]
 by_cases h:y.val 3000≤x.val 3000
 ·simp(disch:=omega)only[go_sem,e1,decide_eq_true h]
  rw[if_pos h]
  exact qk
 ·simp(disch:=omega)only[go_sem,e1,decide_eq_false h]
  rw[if_neg h]
  exact qk
theorem aZr{x y:ExV}(hx:x.ok=true)(hy:y.ok=true):(Za x y).ok=true∧(Q9 x y).ok=true∧(Za x y).val 3000≤(Q9 x y).val 3000:=by
 unfold Za Q9
 by_cases h:x.val 3000≤y.val 3000
 ·rw[if_pos h]
  by_cases h2:y.val 3000≤x.val 3000
  ·rw[if_pos h2];exact⟨hx,hx,Int.le_refl _⟩
  ·rw[if_neg h2];exact⟨hx,hy,h⟩
 ·rw[if_neg h,if_pos (by omega)];exact⟨hy,hx,by omega⟩
theorem aKv{x y:ExV}(hx:x.ok=true)(hy:y.ok=true):SpV.ok ⟨Za x y,Q9 x y⟩=true:=by
 obtain⟨h1,h2,h3⟩:=aZr hx hy
 unfold SpV.ok
 dsimp only
 rw[h1,h2,decide_eq_true h3];rfl
section
variable (l:List UInt8)(hl:l.length≤9223372036854775807)(i h:Int)(hi:0≤i∧i≤l.length)
include hl hi
theorem ajN:Con Tryz.prog 182 false [.pt 10000000 0] [.own 0 [.sl l.length (ql l),.v (.int .i64 i),.v (.int .i64 h)]] (Xn l fun r=>∃s:SpV,s.ok=true∧r=.ag [.v (.bool (s).lo.s),.sl (lim (s).lo.m).length (qb (lim (s).lo.m)),.v (.int .i64 (s).lo.e),.v (.bool (s).hi.s),.sl (lim (s).hi.m).length (qb (lim (s).hi.m)),.v (.int .i64 (s).hi.e)]):=by
 refine Con.of_aw Tryz.func182 rfl Tryz.ntmps182 (by simp) (by simp) (by simp) (W.sound ?_)
 show @W Tryz.prog 29 ⟨_⟩ ⟨fun x σ=>@qX _ _ _ ⟨_⟩ _ ⟨_⟩ x σ⟩ _ _
 simp(disch:=omega)only[go_sem]
 refine qt (QQ l hl i h hi) ?_
 rintro r i1 h1 hi1 ⟨x,hx,rfl⟩
 simp(disch:=omega)only[go_sem]
 refine qt (QQ l hl i1 h1 hi1) ?_
 rintro r i2 h2 hi2 ⟨y,hy,rfl⟩
 simp(disch:=omega)only[go_sem]
 refine qt (qR l hl i2 h2 hi2 3 (by omega)) ?_
 rintro r i3 h3 hi3 ⟨b,rfl⟩
 simp(disch:=omega)only[go_sem]
 cases b
 ·simp(disch:=omega)only[go_sem]
  refine qp rfl [⟨0,[],[]⟩,⟨1,[0],[]⟩,⟨3,[0,1],[]⟩,⟨4,[0,1,3],[]⟩,⟨2,[3,4],[]⟩,⟨5,[],[]⟩,⟨6,[],[]⟩,⟨7,[],[]⟩] (by kernel_rfl) ?_
  simp(disch:=omega)only[go_sem]
  refine qa (QO x y hx hy) ?_
  simp(disch:=omega)only[go_sem]
  refine qa (QN x y hx hy) ?_
  simp(disch:=omega)only[go_sem]
  have ok:=aKv hx hy
  generalize Za x y=a at*
  generalize Q9 x y=b at*
  refine qM (i3) (h3) ⟨⟨a,b⟩,ok,rfl⟩
 ·simp(disch:=omega)only[go_sem]
  refine qp rfl [⟨0,[],[]⟩,⟨2,[0],[]⟩,⟨1,[0],[]⟩,⟨3,[0],[]⟩,⟨4,[0],[]⟩,⟨5,[0],[]⟩,⟨6,[],[]⟩,⟨7,[],[]⟩] (by kernel_rfl) ?_
  simp(disch:=omega)only[go_sem]
  have c3:=Y5 1 (by omega)
  rw[show(1:Int).natAbs=1 from rfl,show decide ((1:Int)<0)=false from rfl]at c3
  refine qa (c3) ?_
  simp(disch:=omega)only[go_sem]
  refine qt (qW l hl i3 h3 hi3 9 (by omega)) ?_
  rintro r i4 h4 hi4 ⟨k,hk,rfl⟩
  simp(disch:=omega)only[go_sem]
  have hk2:=hk.2 (by omega)
  have bx:=Q8 hx
  have b1:ExV.bd (-3000) 4600 ⟨false,1,k-6⟩:=⟨fun _=>rfl,by show-3000≤k-6;omega,by show(bl 1:Int)+(k-6)≤4600;have:bl 1≤1:=zy.2 (by decide);omega⟩
  refine qa (ajQ x ⟨false,1,k-6⟩ (bx.mono (by omega) (by omega)) (b1.mono (by omega) (by omega))) ?_
  simp(disch:=omega)only[go_sem]
  have bp:=ExV.plus_bd bx b1
  have hf:=aLZ (x.plus ⟨false,1,k-6⟩)
  have lp:(lim (x.plus ⟨false,1,k-6⟩).can.m).length≤1000:=by
   have h3:=qy (m:=(x.plus ⟨false,1,k-6⟩).m) (B:=8000) (by have:=bp.2.1;have:=bp.2.2;omega)
   have h4:(lim (x.plus ⟨false,1,k-6⟩).can.m).length≤(lim (x.plus ⟨false,1,k-6⟩).m).length:=yE (aJ2 _)
   omega
  generalize (x.plus ⟨false,1,k-6⟩).can=z at*
  have kz:=yt z.s (lim z.m) z.e (by omega)
  rw[show dyB z.s (lim z.m) z.e=z.ok from rfl]at kz
  refine qi (kz) ?_
  simp(disch:=omega)only[go_sem]
  cases hz:z.ok
  ·simp(disch:=omega)only[go_sem,hz]
   refine qp rfl [⟨0,[],[]⟩,⟨1,[0],[]⟩,⟨3,[0,1],[]⟩,⟨4,[0,1,3],[]⟩,⟨2,[3,4],[]⟩,⟨5,[],[]⟩,⟨6,[],[]⟩,⟨7,[],[]⟩] (by kernel_rfl) ?_
   simp(disch:=omega)only[go_sem]
   refine qa (QO x x hx hx) ?_
   simp(disch:=omega)only[go_sem]
   refine qa (QN x x hx hx) ?_
   simp(disch:=omega)only[go_sem]
   have ok:=aKv hx hx
   generalize Za x x=a at*
   generalize Q9 x x=b at*
   refine qM (i4) (h4) ⟨⟨a,b⟩,ok,rfl⟩
  ·simp(disch:=omega)only[go_sem,hz]
   refine qp rfl [⟨0,[],[]⟩,⟨1,[0],[]⟩,⟨3,[0,1],[]⟩,⟨4,[0,1,3],[]⟩,⟨2,[3,4],[]⟩,⟨5,[],[]⟩,⟨6,[],[]⟩,⟨7,[],[]⟩] (by kernel_rfl) ?_
   simp(disch:=omega)only[go_sem]
   refine qa (QO x z hx hz) ?_
   simp(disch:=omega)only[go_sem]
   refine qa (QN x z hx hz) ?_
   simp(disch:=omega)only[go_sem]
   have ok:=aKv hx hz
   generalize Za x z=a at*
   generalize Q9 x z=b at*
   refine qM (i4) (h4) ⟨⟨a,b⟩,ok,rfl⟩
end
end Go.Ab
namespace Go.Ab
open Go Go.Proofs
/-! ### Rounding down and up-/
def rnF(s:Bool)(a b:Nat)(low mode:Int):FlV:=⟨flK s mode (rq s a b mode) low,s,bbd s mode (rq s a b mode) low,bbe s mode (rq s a b mode) low⟩
def upQ(a b:Nat):Nat:=if a % b=0 then a/b else a/b+1
def isN(F:FlV):Bool:=decide (F.k=0)||decide (F.k=1)
def rqB(s:Bool)(a b:Nat)(low mode:Int):Prop:=rq s a b mode≠0∧1024<(bl (rq s a b mode):Int)+low
end Go.Ab
namespace Go.Ab
def stk(A B:Nat):Nat:=2*(A/B)+(if A % B=0 then 0 else 1)
end Go.Ab
namespace Go.Ab
def rtB(a:Nat):Nat→Nat
 |0=>0
 |n+1=>if(n+1)*(n+1)≤a then n+1 else rtB a n
def rt(a:Nat):Nat:=rtB a a
theorem aeR(a:Nat):∀n,a<(n+1)*(n+1)→rtB a n*rtB a n≤a∧a<(rtB a n+1)*(rtB a n+1)
 |0,h=>⟨by simp[rtB],by simpa [rtB]using h⟩
 |n+1,h=>by
  unfold rtB
  by_cases c:(n+1)*(n+1)≤a
  ·rw[if_pos c];exact⟨c,h⟩
  ·rw[if_neg c];exact aeR a n (by omega)
theorem Yu(a:Nat):rt a*rt a≤a∧a<(rt a+1)*(rt a+1):=aeR a a (by
 have:(a+1)*(a+1)=a*a+2*a+1:=by grind
 omega)
theorem aNN{a b:Nat}(h:a*a<b*b):a<b:=by
 rcases Nat.lt_or_ge a b with h'|h'
 ·exact h'
 ·exact absurd h (Nat.not_lt.2 (Nat.mul_le_mul h' h'))
theorem aoU{a r:Nat}(h1:r*r≤a)(h2:a<(r+1)*(r+1)):rt a=r:=by
 obtain⟨g1,g2⟩:=Yu a
 have k1:=aNN (Nat.lt_of_le_of_lt h1 g2)
 have k2:=aNN (Nat.lt_of_le_of_lt g1 h2)
 omega
theorem adO{a x:Nat}(hx:0<x):a<((x+a/x)/2+1)*((x+a/x)/2+1):=by
 obtain⟨q,hq⟩:∃q,q=a/x:=⟨_,rfl⟩
 rw[←hq]
 have h1:a<x*(q+1):=by
  have:=Nat.lt_mul_div_succ a hx
  rw[hq];exact this
 obtain⟨y,hy⟩:∃y,y=(x+q)/2+1:=⟨_,rfl⟩
 rw[←hy]
 have h2:x+(q+1)≤2*y:=by omega
 have h3:(x+(q+1))*(x+(q+1))≤2*y*(2*y):=Nat.mul_le_mul h2 h2
 have h4:4*(x*(q+1))≤(x+(q+1))*(x+(q+1)):=by
  generalize q+1=p
  have e:(x+p)*(x+p)=x*x+p*p+2*(x*p):=by grind
  rw[e]
  rcases Nat.le_total x p with h|h
  ·obtain⟨d,rfl⟩:=Nat.le.dest h
   have:x*(x+d)=x*x+x*d:=by grind
   have:(x+d)*(x+d)=x*x+2*(x*d)+d*d:=by grind
   omega
  ·obtain⟨d,rfl⟩:=Nat.le.dest h
   have:(p+d)*p=p*p+d*p:=by grind
   have:(p+d)*(p+d)=p*p+2*(d*p)+d*d:=by grind
   omega
 have h5:2*y*(2*y)=4*(y*y):=by grind
 omega
theorem ajo{a x:Nat}(hx:0<x)(h:x≤(x+a/x)/2):x*x≤a:=by
 have h1:x≤a/x:=by omega
 exact(Nat.le_div_iff_mul_le hx).1 h1
end Go.Ab
namespace Go.Ab
open Go Go.Proofs
theorem bbx(a:Nat):bl (rt a)≤bl a:=jF (by
 have:=(Yu a).1
 by_cases h:rt a=0
 ·omega
 ·exact Nat.le_trans (Nat.le_mul_of_pos_left _ (Nat.pos_of_ne_zero h)) this)
theorem aL8{x y B:Nat}(h1:bl x≤B)(h2:bl y≤B):bl (x+y)≤B+1:=by
 have q1:=zy.1 h1
 have q2:=zy.1 h2
 refine zy.2 ?_
 rw[Nat.pow_succ]
 omega
theorem ajH(a:Nat)(la:bl a≤4000000):Con Tryz.prog 247 false [.sl (lim (a)).length (qb (lim (a)))] [] (aER (lim (rt a))):=by
 have ll:=qy la
 refine Con.frzA (a:=.sl (lim (rt a)).length (qb (lim (rt a)))) ?_
 refine Con.of_aw Tryz.func247 rfl Tryz.ntmps247 (by simp) (by simp) (by simp) (W.sound ?_)
 show @W Tryz.prog 32 ⟨_⟩ ⟨fun x σ=>@qX _ _ _ ⟨_⟩ _ ⟨_⟩ x σ⟩ _ _
 simp(disch:=omega)only[go_sem]
 refine qe (fun h1=>?_) (fun h1=>?_)
 ·simp(disch:=omega)only[go_sem,h1]
  have h0:a=0:=qH.1 (List.length_eq_zero_iff.1 (by omega))
  have hr:rt a=0:=by subst h0;exact aoU (by omega) (by omega)
  refine qG (by simp(disch:=omega)only[go_sem]) ?_
  show qF _ 6 _=_
  rw[hr,qm]
  simp(disch:=omega)only[go_sem]
 ·have h0:a≠0:=fun e=>h1 (by rw[e,qm];rfl)
  have ek:((bl a:Int)+1)/2=(((bl a+1)/2:Nat):Int):=by omega
  simp(disch:=omega)only[go_sem,h1]
  refine qa (zb 1 (by omega)) ?_
  simp(disch:=omega)only[go_sem]
  refine qi (Yf a (by omega)) ?_
  simp(disch:=omega)only[go_sem]
  have l1:(lim 1).length≤1000000:=by have:=qy (m:=1) (B:=1) (by decide);omega
  refine qa (zg 1 ((bl a+1)/2) l1 (by omega)) ?_ (by simp(disch:=omega)only[go_sem,ek])
  simp(disch:=omega)only[go_sem]
  have hb:=JH a
  have hk:a<2^((bl a+1)/2)*2^((bl a+1)/2):=by
   rw[←Nat.pow_add]
   exact Nat.lt_of_lt_of_le hb (Nat.pow_le_pow_right (by omega) (by omega))
  have hp:=Nat.pow_pos (n:=(bl a+1)/2) (show 0<2 by omega)
  have hx0:bl (1*2^((bl a+1)/2))≤2000010:=by
   have:=QS (n:=1) (k:=(bl a+1)/2) (by omega)
   have h1:bl 1=1:=by decide
   omega
  have hx1:0<1*2^((bl a+1)/2):=by omega
  have hx2:a<(1*2^((bl a+1)/2)+1)*(1*2^((bl a+1)/2)+1):=by
   refine Nat.lt_of_lt_of_le hk (Nat.mul_le_mul ?_ ?_)<;>omega
  generalize 1*2^((bl a+1)/2)=x0 at*
  refine qj (fun x:Nat=>[(0,.sl (lim (a)).length (qb (lim (a)))),(3,.sl (lim (x)).length (qb (lim (x))))]) (fun _=>[]) (fun x=>0<x∧a<(x+1)*(x+1)∧bl x≤2000010) (fun x=>x) x0 ⟨hx1,hx2,hx0⟩ (Le.lst [] _ _ rfl (by simp(disch:=omega)only[go_sem]) (by simp(disch:=omega)only[go_sem])) ?_
  rintro x ⟨i1,i2,i3⟩
  have lx:=qy i3
  simp(disch:=omega)only[go_sem]
  refine qa (Ji a x (by omega) (by omega) (by omega)) ?_
  simp(disch:=omega)only[go_sem]
  have bq:bl (a/x)≤4000000:=Nat.le_trans (yH a x) la
  have lq:=qy bq
  refine qa (yr x (a/x) (by omega) (by omega)) ?_
  simp(disch:=omega)only[go_sem]
  have bs:bl (x+a/x)≤4000001:=aL8 (Nat.le_trans i3 (by omega)) bq
  have ls:=qy bs
  refine qa (Jh (x+a/x) 1 (by omega) (by omega)) ?_
  simp(disch:=omega)only[go_sem]
  have hy:(x+a/x)/2^1=(x+a/x)/2:=rfl
  rw[hy]
  have n1:=adO (a:=a) i1
  have n2:=ajo (a:=a) i1
  have ny:0<(x+a/x)/2:=by
   have:2≤x+a/x:=by
    by_cases hx:x=1
    ·subst hx;rw[Nat.div_one];omega
    ·exact Nat.le_trans (by omega) (Nat.le_add_right x _)
   omega
  have by2:bl ((x+a/x)/2)≤4000001:=Nat.le_trans (yH _ _) bs
  have ly:=qy by2
  generalize hyy:(x+a/x)/2=y at*
  refine qi (zt y x (by omega) (by omega)) ?_
  simp(disch:=omega)only[go_sem]
  have hc:=(Xg (a:=(y:Int)) (b:=(x:Int))).2.2
  refine qe (fun h2=>?_) (fun h2=>?_)
  ·simp(disch:=omega)only[go_sem,h2]
   have e:rt a=x:=aoU (n2 (by have:=hc.1 h2;omega)) i2
   refine qG (by simp(disch:=omega)only[go_sem]) ?_
   show qF _ 6 _=_
   rw[e]
   simp(disch:=omega)only[go_sem]
  ·simp(disch:=omega)only[go_sem,h2]
   have hlt:y<x:=by
    have:=fun h=>h2 (hc.2 h)
    omega
   exact qc y [] ⟨ny,n1,Nat.le_trans (jF (Nat.le_of_lt hlt)) i3⟩ hlt rfl (by simp(disch:=omega)only[go_sem]) (by simp(disch:=omega)only[go_sem])
end Go.Ab
namespace Go.Ab
open Go Go.Proofs
/-! ### A root,rounded-/
def stR(A S:Nat):Nat:=rt (A/S)*4+(if rt (A/S)*rt (A/S)*S=A then 0 else if A*4<(2*rt (A/S)+1)*(2*rt (A/S)+1)*S then 1 else if A*4=(2*rt (A/S)+1)*(2*rt (A/S)+1)*S then 2 else 3)
theorem Zz(A S:Nat):stR A S/4=rt (A/S)∧(stR A S % 4=0↔rt (A/S)*rt (A/S)*S=A)∧
  (rt (A/S)*rt (A/S)*S≠A→zf ((stR A S % 4*2:Nat):Int) ((4:Nat):Int)=zf ((A*4:Nat):Int) (((2*rt (A/S)+1)*(2*rt (A/S)+1)*S:Nat):Int)):=by
 unfold stR
 generalize rt (A/S)=r
 generalize (2*r+1)*(2*r+1)*S=h
 refine⟨?_,?_,fun hn=>?_⟩
 ·split
  ·omega
  ·split
   ·omega
   ·split<;>omega
 ·constructor
  ·intro h0
   split at h0
   ·assumption
   ·split at h0
    ·omega
    ·split at h0<;>omega
  ·intro h0;rw[if_pos h0];omega
 ·rw[if_neg hn]
  by_cases c1:A*4<h
  ·rw[if_pos c1,show(r*4+1) % 4*2=2 by omega]
   unfold zf;rw[if_pos (by decide),if_pos (by omega)]
  ·rw[if_neg c1]
   by_cases c2:A*4=h
   ·rw[if_pos c2,show(r*4+2) % 4*2=4 by omega,c2]
    unfold zf
    rw[if_neg (by omega),if_neg (by omega),if_neg (by omega),if_neg (by omega)]
   ·rw[if_neg c2,show(r*4+3) % 4*2=6 by omega]
    unfold zf
    simp only[show ¬(((6:Nat):Int)<((4:Nat):Int)) by decide,show ¬(((A*4:Nat):Int)<((h:Nat):Int)) by omega,if_false]
    first|(rw[if_pos (by omega),if_pos (by omega)])|(rw[if_neg (by omega),if_neg (by omega)])
theorem aNL{A S:Nat}(hS:0<S):rt (A/S)*rt (A/S)*S≤A∧A<(rt (A/S)+1)*(rt (A/S)+1)*S:=by
 obtain⟨h1,h2⟩:=Yu (A/S)
 exact⟨(Nat.le_div_iff_mul_le hS).1 h1,(Nat.div_lt_iff_lt_mul hS).1 h2⟩
theorem Y1(a:Nat)(e mode:Int)(la:bl a≤1000000)(he: -1000000≤e∧e≤1000000):
  Con Tryz.prog 191 false [.sl (lim (a)).length (qb (lim (a))),.v (.int .i64 e),.v (.int .i64 mode)] [] (isA (.tu [.sl (lim (rq false (stR (ovA a e) (2^(-e).toNat)) 4 mode)).length (qb (lim (rq false (stR (ovA a e) (2^(-e).toNat)) 4 mode))),.v (.bool (decide (stR (ovA a e) (2^(-e).toNat) % 4=0)))])):=by
 have l1:(lim 1).length≤1000000:=by have:=qy (m:=1) (B:=1) (by decide);omega
 have ll:=qy la
 have bA:=afm (k:=e) (C:=1000000) la (by omega)
 have lA:=qy bA
 obtain⟨f1,f2,f3⟩:=Zz (ovA a e) (2^(-e).toNat)
 have bD:=yH (ovA a e) (2^(-e).toNat)
 have bR:=bbx (ovA a e/2^(-e).toNat)
 have ex1:(if 0>e then 0 else e)=((e.toNat:Nat):Int):=by split<;>omega
 have ex2:(if 0>0-e then 0 else 0-e)=(((-e).toNat:Nat):Int):=by split<;>omega
 have hA:a*2^e.toNat=ovA a e:=rfl
 generalize ovA a e=A at*
 generalize hk:(-e).toNat=k at*
 have hk2:k≤1000000:=by omega
 have cR:=ajH (A/2^k) (by omega)
 generalize rt (A/2^k)=r at*
 have lR:=qy (m:=r) (B:=2000000) (by omega)
 have bRR:=Qt r r
 have lRR:=qy (m:=r*r) (B:=4000000) (by omega)
 have bRS:=QR (r*r) k
 have lRS:=qy (m:=r*r*2^k) (B:=5000000) (by omega)
 have b2:bl (r*2)≤2000001:=by have:=QR r 1;simpa using(show bl (r*2^1)≤2000001 by omega)
 have bT:bl (2*r+1)≤2000002:=by
  have:=aev (r*2)
  rw[Nat.mul_comm 2 r];omega
 have lT:=qy bT
 have l2:=qy b2
 have bTT:=Qt (2*r+1) (2*r+1)
 have lTT:=qy (m:=(2*r+1)*(2*r+1)) (B:=4000004) (by omega)
 have bTS:=QR ((2*r+1)*(2*r+1)) k
 have lTS:=qy (m:=(2*r+1)*(2*r+1)*2^k) (B:=5000004) (by omega)
 have bA4:=QR A 2
 have lA4:=qy (m:=A*2^2) (B:=2000002) (by omega)
 have e2:r*2^1+1=2*r+1:=by omega
 have e4:A*2^2=A*4:=rfl
 refine Con.of_aw Tryz.func191 rfl Tryz.ntmps191 (by simp) (by simp) (by simp) (W.sound ?_)
 show @W Tryz.prog 56 ⟨_⟩ ⟨fun x σ=>@qX _ _ _ ⟨_⟩ _ ⟨_⟩ x σ⟩ _ _
 simp(disch:=omega)only[go_sem]
 refine qa (zg a e.toNat (by omega) (by omega)) ?_ (by simp(disch:=omega)only[go_sem,ex1])
 simp(disch:=omega)only[go_sem]
 rw[hA]
 refine qa (Jh A k (by omega) (by omega)) ?_ (by simp(disch:=omega)only[go_sem,ex2])
 simp(disch:=omega)only[go_sem]
 refine qa (cR) ?_
 simp(disch:=omega)only[go_sem]
 refine qa (zg a e.toNat (by omega) (by omega)) ?_ (by simp(disch:=omega)only[go_sem,ex1])
 simp(disch:=omega)only[go_sem]
 rw[hA]
 refine qa (yG r r (by omega) (by omega)) ?_
 simp(disch:=omega)only[go_sem]
 refine qa (zg (r*r) k (by omega) (by omega)) ?_ (by simp(disch:=omega)only[go_sem,ex2])
 simp(disch:=omega)only[go_sem]
 refine qi (zt (r*r*2^k) A (by omega) (by omega)) ?_
 simp(disch:=omega)only[go_sem]
 have hc:=(Xg (a:=((r*r*2^k:Nat):Int)) (b:=(A:Int))).2.1
 refine qe (fun h1=>?_) (fun h1=>?_)
 ·simp(disch:=omega)only[go_sem,h1]
  have h0:=f2.2 (by have:=hc.1 h1;omega)
  have eq:rq false (stR A (2^k)) 4 mode=r:=by unfold rq;rw[if_pos h0];exact f1
  refine qG (by simp(disch:=omega)only[go_sem]) ⟨?_,rfl,rfl⟩
  rw[eq,decide_eq_true h0];rfl
 ·simp(disch:=omega)only[go_sem,h1]
  have hne:r*r*2^k≠A:=fun e=>h1 (hc.2 (by rw[e]))
  have h0:¬stR A (2^k) % 4=0:=fun e=>hne (f2.1 e)
  have f3':=f3 hne
  refine qa (zg r 1 (by omega) (by omega)) ?_
  simp(disch:=omega)only[go_sem]
  refine qa (zb 1 (by omega)) ?_
  simp(disch:=omega)only[go_sem]
  refine qa (yr (r*2^1) 1 (by rw[Nat.pow_one];omega) (by omega)) ?_
  simp(disch:=omega)only[go_sem]
  rw[e2]
  refine qi (Jj r 0 (by omega) (by omega) (by omega)) ?_
  simp(disch:=omega)only[go_sem]
  refine qa (zg A 2 (by omega) (by omega)) ?_
  simp(disch:=omega)only[go_sem]
  refine qa (yG (2*r+1) (2*r+1) (by omega) (by omega)) ?_
  simp(disch:=omega)only[go_sem]
  refine qa (zg ((2*r+1)*(2*r+1)) k (by omega) (by omega)) ?_ (by simp(disch:=omega)only[go_sem,ex2])
  simp(disch:=omega)only[go_sem]
  refine qi (zt (A*2^2) ((2*r+1)*(2*r+1)*2^k) (by omega) (by omega)) ?_
  simp(disch:=omega)only[go_sem]
  have e1:(decide (((r/1 % 2:Nat):Int)=1))=decide (r % 2=1):=by simp;omega
  refine qi (Z9 false (decide (r % 2=1)) (zf ((A*2^2:Nat):Int) (((2*r+1)*(2*r+1)*2^k:Nat):Int)) mode) ?_ (by simp(disch:=omega)only[go_sem,e1,Int.toNat_zero,Nat.pow_zero])
  simp(disch:=omega)only[go_sem]
  rw[e4,←f3']
  have eq:rq false (stR A (2^k)) 4 mode=if rup false (decide (r % 2=1)) (zf ((stR A (2^k) % 4*2:Nat):Int) ((4:Nat):Int)) mode=true then r+1 else r:=by
   unfold rq;rw[if_neg h0,f1]
  rw[decide_eq_false h0,eq]
  refine yk (fun h2=>?_) (fun h2=>?_)
  ·simp(disch:=omega)only[go_sem,h2]
   refine qa (zb 1 (by omega)) ?_
   simp(disch:=omega)only[go_sem]
   refine qa (yr r 1 (by omega) (by omega)) ?_
   simp(disch:=omega)only[go_sem]
   refine qG (by simp(disch:=omega)only[go_sem]) ⟨?_,rfl,rfl⟩
   rw[if_pos h2];rfl
  ·simp(disch:=omega)only[go_sem,h2]
   refine qG (by simp(disch:=omega)only[go_sem]) ⟨?_,rfl,rfl⟩
   rw[if_neg (by rw[h2];simp)];rfl
end Go.Ab
namespace Go.Ab
open Go Go.Proofs
def sqT(m:Nat)(e:Int):Int:=((bl m:Int)+e+1)/2
def sqL(m:Nat)(e:Int):Int:=Z0 (sqT m e)
def sqA(m:Nat)(e low:Int):Nat:=stR (ovA m (e-2*low)) (2^(-(e-2*low)).toNat)
theorem aaw(s:Bool)(m:Nat)(e low mode:Int)(hm:bl m≤2000)(he: -5000≤e∧e≤5000)(hl: -5000≤low∧low≤5000):
  Con Tryz.prog 113 false [.ag [.v (.bool (s)),.sl (lim (m)).length (qb (lim (m))),.v (.int .i64 (e))],.v (.int .i64 low),.v (.int .i64 mode)] [] (isA (.tu [.ag [.v (.bool (false)),.sl (lim (rq false (sqA m e low) 4 mode)).length (qb (lim (rq false (sqA m e low) 4 mode))),.v (.int .i64 (low))],.v (.bool (decide (sqA m e low % 4=0)))])):=by
 have e2:low*2=2*low:=by omega
 refine Con.frzA ?_
 refine Con.of_aw Tryz.func113 rfl Tryz.ntmps113 (by simp) (by simp) (by simp) (W.sound ?_)
 show @W Tryz.prog 26 ⟨_⟩ ⟨fun x σ=>@qX _ _ _ ⟨_⟩ _ ⟨_⟩ x σ⟩ _ _
 simp(disch:=omega)only[go_sem]
 refine qa (Y1 m (e-2*low) mode (by omega) (by omega)) ?_
 simp(disch:=omega)only[go_sem]
 refine qG (by simp(disch:=omega)only[go_sem]) ?_
 show qF _ 6 _=_
 unfold sqA
 simp(disch:=omega)only[go_sem]
def sqV(k:Int)(s:Bool)(m e mode:Int):FlV:=
 if k=3∨k=0 then⟨k,s,m,e⟩else if s=true then⟨3,false,0,0⟩else if k=2 then⟨k,s,m,e⟩else
  ⟨flK false mode (rq false (sqA m.toNat e (sqL m.toNat e)) 4 mode) (sqL m.toNat e),false,bbd false mode (rq false (sqA m.toNat e (sqL m.toNat e)) 4 mode) (sqL m.toNat e),bbe false mode (rq false (sqA m.toNat e (sqL m.toNat e)) 4 mode) (sqL m.toNat e)⟩
def sqG(k:Int)(s:Bool)(m e mode:Int):Int:=
 if k=3∨k=0 then 0 else if s=true then 16 else if k=2 then 0 else
  bbN (sqT m.toNat e) (decide (sqA m.toNat e (sqL m.toNat e) % 4=0)) (rq false (sqA m.toNat e (sqL m.toNat e)) 4 mode) (sqL m.toNat e)
end Go.Ab
namespace Go.Ab
open Go Go.Proofs
def rtE(x:ExV)(low md:Int):ExV:=⟨false,rq false (sqA x.m x.e low) 4 md,low⟩
def beL(n:Int):Bool:=decide (-3000≤n)&&decide (n≤3000)
theorem aY3{A S:Nat}{md:Int}:rq false (stR A S) 4 md≤A+1:=by
 have h:=aJd false (stR A S) 4 md
 obtain⟨f1, -⟩:=Zz A S
 rw[f1]at h
 have h2:rt (A/S)≤A/S:=by
  have:=(Yu (A/S)).1
  by_cases h0:rt (A/S)=0
  ·omega
  ·exact Nat.le_trans (Nat.le_mul_of_pos_left _ (by omega)) this
 have h3:A/S≤A:=Nat.div_le_self _ _
 omega
theorem aeS(a b:Nat):rq false a b 3=a/b:=by
 unfold rq rup
 by_cases h:a % b=0<;>simp[h]
theorem aN2(a b:Nat):rq false a b 2=if a % b=0 then rq false a b 3 else rq false a b 3+1:=by
 rw[aeS]
 unfold rq rup
 by_cases h:a % b=0<;>simp[h]
theorem aNO(K:Nat){m:Nat}{e low:Int}(h1: -(2*K:Nat)≤e)(hl: -(K:Int)≤low):∃C:Int,0<C∧(∀q:Nat,dv K false q low*dv K false q low=((q*q*2^(-(e-2*low)).toNat:Nat):Int)*C)∧dv (K+K) false m e=(ovA m (e-2*low):Int)*C:=by
 obtain⟨kp,hkp⟩:∃k:Nat,k=(e-2*low).toNat:=⟨_,rfl⟩
 obtain⟨km,hkm⟩:∃k:Nat,k=(-(e-2*low)).toNat:=⟨_,rfl⟩
 obtain⟨c,hc⟩:∃c:Nat,(c:Int)=(if e-2*low≤0 then e+2*K else 2*low+2*K):=⟨(if e-2*low≤0 then e+2*K else 2*low+2*K).toNat,by split<;>omega⟩
 refine⟨2^c,Int.pow_pos (by omega),fun q=>?_,?_⟩
 ·have ee:(low+(K:Int)).toNat+(low+(K:Int)).toNat=km+c:=by split at hc<;>omega
  rw[←hkm]
  unfold dv
  rw[sv,if_neg (by simp)]
  have:(q:Int)*2^(low+(K:Int)).toNat*((q:Int)*2^(low+(K:Int)).toNat)=(q:Int)*q*(2^(low+(K:Int)).toNat*2^(low+(K:Int)).toNat):=by grind
  rw[this,←Int.pow_add,ee,Int.pow_add,Int.natCast_mul,Int.natCast_mul,Int.natCast_pow,Int.mul_assoc (((q:Int)*q))]
  rfl
 ·have ee:(e+((K+K:Nat):Int)).toNat=kp+c:=by split at hc<;>omega
  unfold ovA
  rw[←hkp]
  unfold dv
  rw[sv,if_neg (by simp),ee,Int.pow_add,Int.natCast_mul,Int.natCast_pow,Int.mul_assoc]
  rfl
end Go.Ab
namespace Go.Ab
open Go Go.Proofs
end Go.Ab
namespace Go.Ab
open Go Go.Proofs
def rkI:Bool→Nat
 |false=>0
 |true=>1
def rkH(x:ExV):Bool→List (Nat×Ob)
 |false=>[(3,.own 1 [.v (.slice none 0 0)])]
 |true=>[(3,.own 1 [.rf 5 0 1]),(5,.own 3 [.v (.bool x.s),.sl (lim x.m).length (qb (lim x.m)),.v (.int .i64 x.e)])]
def ex5:ExV:=⟨false,5,0⟩
end Go.Ab
namespace Go.Ab
open Go Go.Proofs
def beM(M:List DyV):Prop:=M.length≤16∧∀d∈M,d.xs.length≤200
end Go.Ab
namespace Go.Ab
open Go Go.Proofs
end Go.Ab
namespace Go.Ab
open Go Go.Proofs
/-! ### Matrices that were told,or not-/
def beD(n N:Nat)(T:List ExV):Prop:=(N=n∧matV n T)∨(N=0∧T=[])
def beE(M:List DyV):Prop:=M.length≤16∧∀d∈M,d.xs.length≤200
end Go.Ab
namespace Go.Ab
/-! ### Determinants of integers-/
def sgI(k:Nat):Int:=if k % 2=1 then-1 else 1
def skp(r i:Nat):Nat:=if i<r then i else i+1
def akk(A:Nat→Nat→Int)(r c:Nat):Nat→Nat→Int:=fun i j=>A (skp r i) (skp c j)
def jj:Nat→(Nat→Nat→Int)→Int
 |0,_=>1
 |n+1,A=>qD (fun j=>sgI j*(A 0 j*jj n (akk A 0 j))) (n+1)
theorem arC(A:Nat→Nat→Int):jj 1 A=A 0 0:=by
 simp[jj,qD,sgI]
theorem ako(A:Nat→Nat→Int):jj 2 A=A 0 0*A 1 1-A 0 1*A 1 0:=by
 simp[jj,qD,sgI,akk,skp];omega
theorem akn(A:Nat→Nat→Int):jj 3 A=A 0 0*(A 1 1*A 2 2-A 1 2*A 2 1)-A 0 1*(A 1 0*A 2 2-A 1 2*A 2 0)+A 0 2*(A 1 0*A 2 1-A 1 1*A 2 0):=by
 rw[jj]
 simp only[ako,qD,sgI,akk,skp]
 simp
 omega
theorem aFc(A:Nat→Nat→Int):jj 4 A=(A 0 0*A 1 1-A 0 1*A 1 0)*(A 2 2*A 3 3-A 2 3*A 3 2)-(A 0 0*A 1 2-A 0 2*A 1 0)*(A 2 1*A 3 3-A 2 3*A 3 1)
  +(A 0 0*A 1 3-A 0 3*A 1 0)*(A 2 1*A 3 2-A 2 2*A 3 1)+(A 0 1*A 1 2-A 0 2*A 1 1)*(A 2 0*A 3 3-A 2 3*A 3 0)
  -(A 0 1*A 1 3-A 0 3*A 1 1)*(A 2 0*A 3 2-A 2 2*A 3 0)+(A 0 2*A 1 3-A 0 3*A 1 2)*(A 2 0*A 3 1-A 2 1*A 3 0):=by
 rw[jj]
 simp only[akn,qD,sgI,akk,skp]
 simp
 grind
end Go.Ab
namespace Go.Ab
theorem aCQ{n:Nat}(hn:n≤4)(A:Nat→Nat→Int):jj n (fun i j=>A j i)=jj n A:=by
 rcases(show n=0∨n=1∨n=2∨n=3∨n=4 by omega)with rfl|rfl|rfl|rfl|rfl
 ·rfl
 ·rw[arC,arC]
 ·rw[ako,ako];grind
 ·rw[akn,akn];grind
 ·rw[aFc,aFc];grind
theorem yq:∀{n:Nat} {A B:Nat→Nat→Int},(∀i j,i<n→j<n→A i j=B i j)→jj n A=jj n B
 |0,_,_,_=>rfl
 |n+1,A,B,h=>by
  rw[jj,jj]
  refine qK fun j hj=>?_
  rw[h 0 j (by omega) hj,yq (n:=n) (A:=akk A 0 j) (B:=akk B 0 j) fun i k hi hk=>?_]
  unfold akk skp
  exact h _ _ (by split<;>omega) (by split<;>omega)
def m2(A:Nat→Nat→Int)(r s c d:Nat):Int:=A r c*A s d-A r d*A s c
theorem aat(A:Nat→Nat→Int):jj 4 A=m2 A 0 1 0 1*m2 A 2 3 2 3-m2 A 0 1 0 2*m2 A 2 3 1 3+m2 A 0 1 0 3*m2 A 2 3 1 2+m2 A 0 1 1 2*m2 A 2 3 0 3-m2 A 0 1 1 3*m2 A 2 3 0 2+m2 A 0 1 2 3*m2 A 2 3 0 1:=aFc A
def yd(n:Nat)(A B:Nat→Nat→Int):Nat→Nat→Int:=fun i j=>qD (fun t=>A i t*B t j) n
theorem bbH(A B:Nat→Nat→Int)(i j:Nat):yd 4 A B i j=A i 0*B 0 j+A i 1*B 1 j+A i 2*B 2 j+A i 3*B 3 j:=by
 simp[yd,qD]
theorem bbI(A B:Nat→Nat→Int)(i j:Nat):yd 3 A B i j=A i 0*B 0 j+A i 1*B 1 j+A i 2*B 2 j:=by
 simp[yd,qD]
theorem aZo(A B:Nat→Nat→Int)(i j:Nat):yd 2 A B i j=A i 0*B 0 j+A i 1*B 1 j:=by
 simp[yd,qD]
theorem aZp(A B:Nat→Nat→Int)(i j:Nat):yd 1 A B i j=A i 0*B 0 j:=by
 simp[yd,qD]
theorem aO1(A B:Nat→Nat→Int)(r s c d:Nat):m2 (yd 4 A B) r s c d=m2 A r s 0 1*m2 B 0 1 c d+m2 A r s 0 2*m2 B 0 2 c d+m2 A r s 0 3*m2 B 0 3 c d+m2 A r s 1 2*m2 B 1 2 c d+m2 A r s 1 3*m2 B 1 3 c d+m2 A r s 2 3*m2 B 2 3 c d:=by
 simp only[m2,bbH]
 grind
def q4(B:Nat→Nat→Int)(p q r s:Nat):Int:=m2 B p q 0 1*m2 B r s 2 3-m2 B p q 0 2*m2 B r s 1 3+m2 B p q 0 3*m2 B r s 1 2+m2 B p q 1 2*m2 B r s 0 3-m2 B p q 1 3*m2 B r s 0 2+m2 B p q 2 3*m2 B r s 0 1
theorem Qd(B:Nat→Nat→Int)(p q s:Nat):q4 B p q p s=0:=by unfold q4 m2;grind
theorem aBe(B:Nat→Nat→Int)(p q r:Nat):q4 B p q r p=0:=by unfold q4 m2;grind
theorem aBd(B:Nat→Nat→Int)(p q s:Nat):q4 B p q q s=0:=by unfold q4 m2;grind
theorem K1(B:Nat→Nat→Int)(p q r:Nat):q4 B p q r q=0:=by unfold q4 m2;grind
theorem bdW(B:Nat→Nat→Int):q4 B 0 1 2 3=jj 4 B:=(aat B).symm
theorem bdV(B:Nat→Nat→Int):q4 B 0 2 1 3= -jj 4 B:=by rw[aat];unfold q4 m2;grind
theorem bdU(B:Nat→Nat→Int):q4 B 0 3 1 2=jj 4 B:=by rw[aat];unfold q4 m2;grind
theorem bdT(B:Nat→Nat→Int):q4 B 1 2 0 3=jj 4 B:=by rw[aat];unfold q4 m2;grind
theorem bdS(B:Nat→Nat→Int):q4 B 1 3 0 2= -jj 4 B:=by rw[aat];unfold q4 m2;grind
theorem bdR(B:Nat→Nat→Int):q4 B 2 3 0 1=jj 4 B:=by rw[aat];unfold q4 m2;grind
theorem aqg(A B:Nat→Nat→Int):jj 4 (yd 4 A B)=m2 A 0 1 0 1*m2 A 2 3 0 1*q4 B 0 1 0 1+m2 A 0 1 0 1*m2 A 2 3 0 2*q4 B 0 1 0 2+m2 A 0 1 0 1*m2 A 2 3 0 3*q4 B 0 1 0 3+m2 A 0 1 0 1*m2 A 2 3 1 2*q4 B 0 1 1 2+m2 A 0 1 0 1*m2 A 2 3 1 3*q4 B 0 1 1 3+m2 A 0 1 0 1*m2 A 2 3 2 3*q4 B 0 1 2 3+m2 A 0 1 0 2*m2 A 2 3 0 1*q4 B 0 2 0 1+m2 A 0 1 0 2*m2 A 2 3 0 2*q4 B 0 2 0 2+m2 A 0 1 0 2*m2 A 2 3 0 3*q4 B 0 2 0 3+m2 A 0 1 0 2*m2 A 2 3 1 2*q4 B 0 2 1 2+m2 A 0 1 0 2*m2 A 2 3 1 3*q4 B 0 2 1 3+m2 A 0 1 0 2*m2 A 2 3 2 3*q4 B 0 2 2 3+m2 A 0 1 0 3*m2 A 2 3 0 1*q4 B 0 3 0 1+m2 A 0 1 0 3*m2 A 2 3 0 2*q4 B 0 3 0 2+m2 A 0 1 0 3*m2 A 2 3 0 3*q4 B 0 3 0 3+m2 A 0 1 0 3*m2 A 2 3 1 2*q4 B 0 3 1 2+m2 A 0 1 0 3*m2 A 2 3 1 3*q4 B 0 3 1 3+m2 A 0 1 0 3*m2 A 2 3 2 3*q4 B 0 3 2 3+m2 A 0 1 1 2*m2 A 2 3 0 1*q4 B 1 2 0 1+m2 A 0 1 1 2*m2 A 2 3 0 2*q4 B 1 2 0 2+m2 A 0 1 1 2*m2 A 2 3 0 3*q4 B 1 2 0 3+m2 A 0 1 1 2*m2 A 2 3 1 2*q4 B 1 2 1 2+m2 A 0 1 1 2*m2 A 2 3 1 3*q4 B 1 2 1 3+m2 A 0 1 1 2*m2 A 2 3 2 3*q4 B 1 2 2 3+m2 A 0 1 1 3*m2 A 2 3 0 1*q4 B 1 3 0 1+m2 A 0 1 1 3*m2 A 2 3 0 2*q4 B 1 3 0 2+m2 A 0 1 1 3*m2 A 2 3 0 3*q4 B 1 3 0 3+m2 A 0 1 1 3*m2 A 2 3 1 2*q4 B 1 3 1 2+m2 A 0 1 1 3*m2 A 2 3 1 3*q4 B 1 3 1 3+m2 A 0 1 1 3*m2 A 2 3 2 3*q4 B 1 3 2 3+m2 A 0 1 2 3*m2 A 2 3 0 1*q4 B 2 3 0 1+m2 A 0 1 2 3*m2 A 2 3 0 2*q4 B 2 3 0 2+m2 A 0 1 2 3*m2 A 2 3 0 3*q4 B 2 3 0 3+m2 A 0 1 2 3*m2 A 2 3 1 2*q4 B 2 3 1 2+m2 A 0 1 2 3*m2 A 2 3 1 3*q4 B 2 3 1 3+m2 A 0 1 2 3*m2 A 2 3 2 3*q4 B 2 3 2 3:=by
 rw[aat]
 simp only[aO1]
 simp only[q4]
 grind
theorem aCS(A B:Nat→Nat→Int):jj 4 (yd 4 A B)=jj 4 A*jj 4 B:=by
 rw[aqg]
 rw[Qd B 0 1 1,Qd B 0 1 2,Qd B 0 1 3,aBd B 0 1 2,aBd B 0 1 3,Qd B 0 2 1,Qd B 0 2 2,Qd B 0 2 3,K1 B 0 2 1,aBd B 0 2 3,Qd B 0 3 1,Qd B 0 3 2,Qd B 0 3 3,K1 B 0 3 1,K1 B 0 3 2,aBe B 1 2 0,K1 B 1 2 0,Qd B 1 2 2,Qd B 1 2 3,aBd B 1 2 3,aBe B 1 3 0,K1 B 1 3 0,Qd B 1 3 2,Qd B 1 3 3,K1 B 1 3 2,aBe B 2 3 0,K1 B 2 3 0,aBe B 2 3 1,K1 B 2 3 1,Qd B 2 3 3]
 rw[bdW,bdV,bdU,bdT,bdS,bdR,aat A]
 grind
theorem Z5{n:Nat}(hn:n≤4)(A B:Nat→Nat→Int):jj n (yd n A B)=jj n A*jj n B:=by
 rcases(show n=0∨n=1∨n=2∨n=3∨n=4 by omega)with rfl|rfl|rfl|rfl|rfl
 ·rfl
 ·rw[arC,arC,arC,aZp]
 ·rw[ako,ako,ako];simp only[aZo];grind
 ·rw[akn,akn,akn];simp only[bbI];grind
 ·exact aCS A B
end Go.Ab
namespace Go.Ab
def aMZ(n:Nat)(A:Nat→Nat→Int)(k j:Nat):Int:=sgI (k+j)*jj (n-1) (akk A j k)
theorem aMB{n:Nat}(hn:n≤4)(A:Nat→Nat→Int){i j:Nat}(hi:i<n)(hj:j<n):yd n A (aMZ n A) i j=if i=j then jj n A else 0:=by
 rcases(show n=1∨n=2∨n=3∨n=4 by omega)with rfl|rfl|rfl|rfl
 ·obtain rfl:i=0:=by omega
  obtain rfl:j=0:=by omega
  rw[aZp,arC,if_pos rfl]
  simp[aMZ,sgI,jj]
 ·simp only[aZo,aMZ,ako,show 2-1=1 from rfl,arC]
  rcases(show i=0∨i=1 by omega)with rfl|rfl<;>rcases(show j=0∨j=1 by omega)with rfl|rfl<;>(simp[sgI,akk,skp];try grind)
 ·simp only[bbI,aMZ,akn,show 3-1=2 from rfl,ako]
  rcases(show i=0∨i=1∨i=2 by omega)with rfl|rfl|rfl<;>rcases(show j=0∨j=1∨j=2 by omega)with rfl|rfl|rfl<;>(simp[sgI,akk,skp];try grind)
 ·simp only[bbH,aMZ,aFc,show 4-1=3 from rfl,akn]
  rcases(show i=0∨i=1∨i=2∨i=3 by omega)with rfl|rfl|rfl|rfl<;>rcases(show j=0∨j=1∨j=2∨j=3 by omega)with rfl|rfl|rfl|rfl<;>(simp[sgI,akk,skp];try grind)
end Go.Ab
namespace Go.Ab
open Go Go.Proofs
/-! ### What determinants are worth-/
end Go.Ab
namespace Go.Ab
open Go Go.Proofs
/-! ### Turned matrices-/
def beb(n:Nat)(l:List ExV):List ExV:=gl n (fun i j=>l.getD (j*n+i) ex0) (n*n)
end Go.Ab
namespace Go.Ab
open Go Go.Proofs
/-! ### Adjugates and minors-/
def bev(n:Nat)(l:List ExV)(a b:Nat):ExV:=(bbP (n-1) (mnR n l b a n)).sgn (b+a)
def beQ(n:Nat)(l:List ExV):List ExV:=gl n (bev n l) (n*n)
end Go.Ab
namespace Go.Ab
open Go
section
variable {X:Type}{f:X→List AV}{z:Nat}
end
end Go.Ab
namespace Go.Ab
open Go Go.Proofs
section
variable (l:List UInt8)(hl:l.length≤9223372036854775807)(i h:Int)(hi:0≤i∧i≤l.length)
include hl hi
def bd8(r:AV):Prop:=∃L:List DyV,L.length≤101∧(∀d∈L,d.xs.length≤200)∧r=.sl L.length (qu DyV.cs L)
end
end Go.Ab
namespace Go.Ab
open Go Go.Proofs
/-! ### Polynomials of a matrix-/
def bbG(n:Nat)(L:List ExV):Nat→List ExV
 |0=>gId n
 |k+1=>aPe n (bbG n L k) L
def bdM(n:Nat)(L p:List ExV):Nat→List ExV
 |0=>jC n (gId n) ex0
 |k+1=>aZy n (bdM n L p k) (jC n (bbG n L k) (p.getD k ex0))
end Go.Ab
namespace Go.Ab
def idI(i j:Nat):Int:=if i=j then 1 else 0
def aBg(n:Nat)(A:Nat→Nat→Int):Nat→Nat→Nat→Int
 |0=>idI
 |k+1=>yd n (aBg n A k) A
theorem ch1(A:Nat→Nat→Int):aBg 1 A 1 0 0+(-A 0 0)*aBg 1 A 0 0 0=0:=by
 simp[aBg,aZp,idI];omega
theorem ch2(A:Nat→Nat→Int){i j:Nat}(hi:i<2)(hj:j<2):aBg 2 A 2 i j+(-(A 0 0+A 1 1))*aBg 2 A 1 i j+(A 0 0*A 1 1-A 0 1*A 1 0)*aBg 2 A 0 i j=0:=by
 simp only[aBg,aZo,idI]
 rcases(show i=0∨i=1 by omega)with rfl|rfl<;>rcases(show j=0∨j=1 by omega)with rfl|rfl<;>(simp;try grind)
def pm3(A:Nat→Nat→Int)(r:Nat):Int:=jj 3 (akk A r r)
end Go.Ab
namespace Go.Ab
/-! ### Ranks-/
theorem Zx{f:Nat→Int}{k:Nat}:∀{m:Nat},k≤m→(∀i,k≤i→f i=0)→qD f m=qD f k
 |0,h,_=>by
  obtain rfl:k=0:=by omega
  rfl
 |m+1,h,hz=>by
  by_cases e:k=m+1
  ·rw[e]
  ·rw[qD,Zx (by omega) hz,hz m (by omega),Int.add_zero]
def ai2(n k:Nat)(A:Nat→Nat→Int):Prop:=∃(c:Int) (B C:Nat→Nat→Int),c≠0∧∀i j,i<n→j<n→c*A i j=qD (fun t=>B i t*C t j) k
theorem Qy{n k:Nat}{A A':Nat→Nat→Int}(h:∀i j,i<n→j<n→A i j=A' i j):ai2 n k A→ai2 n k A'
 |⟨c,B,C,h0,h1⟩=>⟨c,B,C,h0,fun i j hi hj=>by rw[←h i j hi hj];exact h1 i j hi hj⟩
theorem KP{n k:Nat}{A:Nat→Nat→Int}:ai2 n k A→ai2 n k (fun i j=>A j i)
 |⟨c,B,C,h0,h1⟩=>⟨c,fun i t=>C t i,fun t j=>B j t,h0,fun i j hi hj=>by
  rw[h1 j i hj hi];exact qK fun t _=>Int.mul_comm _ _⟩
theorem Yq(n k:Nat)(f:Nat→Int)(g:Nat→Nat→Int)(h:Nat→Int):qD (fun s=>qD (fun t=>f t*g t s) k*h s) n=qD (fun t=>f t*qD (fun s=>g t s*h s) n) k:=by
 have e1:qD (fun s=>qD (fun t=>f t*g t s) k*h s) n=qD (fun s=>qD (fun t=>f t*(g t s*h s)) k) n:=
  qK fun s _=>by rw[←JK];exact qK fun t _=>Int.mul_assoc _ _ _
 have e2:qD (fun t=>f t*qD (fun s=>g t s*h s) n) k=qD (fun t=>qD (fun s=>f t*(g t s*h s)) n) k:=
  qK fun t _=>by rw[←yx]
 rw[e1,e2,JL]
theorem aou{n k:Nat}{A:Nat→Nat→Int}(D:Nat→Nat→Int):ai2 n k A→ai2 n k (yd n A D)
 |⟨c,B,C,h0,h1⟩=>⟨c,B,yd n C D,h0,fun i j hi hj=>by
  show c*qD (fun t=>A i t*D t j) n=qD (fun t=>B i t*qD (fun s=>C t s*D s j) n) k
  rw[←Yq,←yx]
  exact qK fun s hs=>by rw[←h1 i s hi hs,Int.mul_assoc]⟩
theorem KQ{n k:Nat}{A:Nat→Nat→Int}(D:Nat→Nat→Int):ai2 n k A→ai2 n k (yd n D A)
 |⟨c,B,C,h0,h1⟩=>⟨c,yd n D B,C,h0,fun i j hi hj=>by
  show c*qD (fun t=>D i t*A t j) n=qD (fun t=>qD (fun s=>D i s*B s t) n*C t j) k
  rw[Yq,←yx]
  exact qK fun s hs=>by rw[←h1 s j hs hj,Int.mul_left_comm]⟩
def dgI(c:Int)(i j:Nat):Int:=if i=j then c else 0
theorem aOX{n:Nat}(c:Int)(A:Nat→Nat→Int){i j:Nat}(hi:i<n):yd n (dgI c) A i j=c*A i j:=by
 unfold yd
 rw[jq (j:=i) hi (fun t _ hne=>by unfold dgI;rw[if_neg (fun h=>hne h.symm),Int.zero_mul])]
 unfold dgI;rw[if_pos rfl]
theorem aS0{n:Nat}(hn:n≤4){c:Int}(hc:c≠0):jj n (dgI c)≠0:=by
 rcases(show n=0∨n=1∨n=2∨n=3∨n=4 by omega)with rfl|rfl|rfl|rfl|rfl
 ·intro h;cases h
 ·rw[arC];simp[dgI,hc]
 ·rw[ako];simp[dgI,hc]
 ·rw[akn];simp[dgI,hc]
 ·rw[aFc];simp[dgI,hc]
theorem aCR{n:Nat}(hn:n≤4)(h1:1≤n){A:Nat→Nat→Int}(h:∀i,A i (n-1)=0):jj n A=0:=by
 rcases(show n=1∨n=2∨n=3∨n=4 by omega)with rfl|rfl|rfl|rfl
 ·have:=h 0
  rw[arC];simpa using this
 ·have h:∀i,A i 1=0:=h
  rw[ako];simp[h]
 ·have h:∀i,A i 2=0:=h
  rw[akn];simp[h]
 ·have h:∀i,A i 3=0:=h
  rw[aFc];simp[h]
theorem aAD{n k:Nat}(hn:n≤4)(hk:k<n){A:Nat→Nat→Int}:ai2 n k A→jj n A=0
 |⟨c,B,C,h0,h1⟩=>by
  have e:jj n (yd n (dgI c) A)=jj n (yd n (fun i t=>if t<k then B i t else 0) C):=yq fun i j hi hj=>by
   rw[aOX c A hi,h1 i j hi hj]
   show _=qD (fun t=>(if t<k then B i t else 0)*C t j) n
   rw[Zx (f:=fun t=>(if t<k then B i t else 0)*C t j) (k:=k) (by omega) (fun t ht=>by rw[if_neg (by omega),Int.zero_mul])]
   exact qK fun t ht=>by rw[if_pos ht]
  rw[Z5 hn,Z5 hn,aCR hn (by omega) (A:=fun i t=>if t<k then B i t else 0) (fun i=>if_neg (by omega)),Int.zero_mul]at e
  exact(Int.mul_eq_zero.1 e).resolve_left (aS0 hn h0)
theorem aqe{r:Nat}(hr:r≤4){T:Nat→Nat→Int}(hd:∀t,t<r→T t t≠0)(hz:∀s t,t<s→s<r→T s t=0):jj r T≠0:=by
 rcases(show r=0∨r=1∨r=2∨r=3∨r=4 by omega)with rfl|rfl|rfl|rfl|rfl
 ·intro h;cases h
 ·rw[arC];exact hd 0 (by omega)
 ·rw[ako,hz 1 0 (by omega) (by omega)]
  simp[hd 0 (by omega),hd 1 (by omega)]
 ·rw[akn,hz 1 0 (by omega) (by omega),hz 2 0 (by omega) (by omega),hz 2 1 (by omega) (by omega)]
  simp[hd 0 (by omega),hd 1 (by omega),hd 2 (by omega)]
 ·rw[aFc,hz 1 0 (by omega) (by omega),hz 2 0 (by omega) (by omega),hz 2 1 (by omega) (by omega),hz 3 0 (by omega) (by omega),hz 3 1 (by omega) (by omega),hz 3 2 (by omega) (by omega)]
  simp[hd 0 (by omega),hd 1 (by omega),hd 2 (by omega),hd 3 (by omega)]
structure isRank(n:Nat)(A:Nat→Nat→Int)(r:Nat):Prop where
 le:r≤n
 up:ai2 n r A
 low:∀k,ai2 n k A→r≤k
 full:r=n→jj n A≠0
theorem isRank.turn{n r s:Nat}{A:Nat→Nat→Int}(h:isRank n A r)(g:isRank n (fun i j=>A j i) s):s=r:=
 Nat.le_antisymm (g.low r (KP h.up)) (h.low s (KP g.up))
theorem isRank.congr{n r:Nat}{A B:Nat→Nat→Int}(h:isRank n A r)(e:∀i j,i<n→j<n→A i j=B i j):isRank n B r:=
 ⟨h.le,Qy e h.up,fun k hk=>h.low k (Qy (fun i j hi hj=>(e i j hi hj).symm) hk),fun hr=>by rw[←yq e];exact h.full hr⟩
theorem isRank.mul{n r s t:Nat}{A B:Nat→Nat→Int}(h:isRank n A r)(g:isRank n B s)(p:isRank n (yd n A B) t):t≤r∧t≤s:=
 ⟨p.low r (aou B h.up),p.low s (KQ A g.up)⟩
structure elim(n:Nat)(A C:Nat→Nat→Int)(r j:Nat):Prop where
 le:r≤n
 rj:r≤j
 u:∃U:Nat→Nat→Int,jj n U≠0∧∀i k,i<n→k<n→C i k=yd n U A i k
 p:∃p:Nat→Nat,∀t,t<r→p t<j∧p t<n∧C t (p t)≠0∧∀s,t<s→s<n→C s (p t)=0
 z:∀i k,r≤i→i<n→k<j→k<n→C i k=0
theorem JW(n:Nat)(A B C:Nat→Nat→Int)(i j:Nat):yd n (yd n A B) C i j=yd n A (yd n B C) i j:=
 Yq n n (fun t=>A i t) B (fun s=>C s j)
theorem elim.rank{n:Nat}(hn:n≤4){A C:Nat→Nat→Int}{r:Nat}(h:elim n A C r n):isRank n A r:=by
 obtain⟨hle, -,⟨U,hU,hC⟩,⟨p,hp⟩,hz⟩:=h
 have lowC:∀k,ai2 n k C→r≤k:=fun k hk=>by
  rcases Nat.lt_or_ge k r with g|g
  ·exfalso
   obtain⟨c,B,D,h0,h1⟩:=hk
   have ht:ai2 r k (fun s t=>C s (p t)):=⟨c,B,fun u t=>D u (p t),h0,fun s t hs ht=>h1 s (p t) (by omega) (hp t ht).2.1⟩
   exact aqe (by omega) (fun t ht=>(hp t ht).2.2.1) (fun s t hst hs=>(hp t (by omega)).2.2.2 s hst (by omega)) (aAD (by omega) g ht)
  ·exact g
 refine⟨hle,?_,fun k hk=>lowC k (Qy (fun i j hi hj=>(hC i j hi hj).symm) (KQ U hk)),fun hr hd=>?_⟩
 ·
  obtain⟨V,hV⟩:∃V:Nat→Nat→Int,∀i j,i<n→j<n→yd n V U i j=if i=j then jj n U else 0:=by
   refine⟨fun i j=>aMZ n (fun a b=>U b a) j i,fun i j hi hj=>?_⟩
   have:=aMB hn (fun a b=>U b a) hj hi
   rw[aCQ hn]at this
   have e2:(if i=j then jj n U else 0)=if j=i then jj n U else 0:=by
    by_cases e:i=j
    ·rw[if_pos e,if_pos e.symm]
    ·rw[if_neg e,if_neg (fun h=>e h.symm)]
   rw[e2,←this]
   exact qK fun t _=>Int.mul_comm _ _
  refine⟨jj n U,V,C,hU,fun i j hi hj=>?_⟩
  have e1:qD (fun t=>V i t*C t j) r=qD (fun t=>V i t*C t j) n:=by
   have:qD (fun t=>V i t*C t j) n=qD (fun t=>if t<r then V i t*C t j else 0) n:=qK fun t ht=>by
    by_cases g:t<r
    ·rw[if_pos g]
    ·rw[if_neg g,hz t j (by omega) ht hj hj,Int.mul_zero]
   rw[this,Zx hle (fun t ht=>if_neg (by omega))]
   exact qK fun t ht=>by rw[if_pos ht]
  rw[e1]
  have e2:qD (fun t=>V i t*C t j) n=yd n (yd n V U) A i j:=by
   rw[JW]
   exact qK fun t ht=>by rw[hC t j ht hj]
  rw[e2]
  show _=qD (fun t=>yd n V U i t*A t j) n
  rw[jq (j:=i) hi (fun t ht hne=>by rw[hV i t hi ht,if_neg (fun h=>hne h.symm),Int.zero_mul]),hV i i hi hi,if_pos rfl]
 ·subst hr
  have h1:jj r C=0:=by
   rw[yq hC,Z5 hn,hd,Int.mul_zero]
  have h2:jj r (yd r C (fun u t=>if u=p t then 1 else 0))=0:=by rw[Z5 hn,h1,Int.zero_mul]
  refine aqe hn (T:=fun s t=>C s (p t)) (fun t ht=>(hp t ht).2.2.1) (fun s t hst hs=>(hp t (by omega)).2.2.2 s hst (by omega)) ?_
  rw[←h2]
  refine yq fun i j hi hj=>?_
  show C i (p j)=qD (fun u=>C i u*(if u=p j then 1 else 0)) r
  rw[jq (j:=p j) (hp j hj).2.1 (fun t _ hne=>by rw[if_neg hne,Int.mul_zero]),if_pos rfl,Int.mul_one]
theorem elim.skip{n:Nat}{A C:Nat→Nat→Int}{r j:Nat}(h:elim n A C r j)(hz:∀i,r≤i→i<n→C i j=0):elim n A C r (j+1):=by
 obtain⟨h1,h2,h3,⟨p,hp⟩,h5⟩:=h
 refine⟨h1,by omega,h3,⟨p,fun t ht=>⟨by have:=(hp t ht).1;omega,(hp t ht).2⟩⟩,fun i k hi hin hk hkn=>?_⟩
 rcases(show k<j∨k=j by omega)with g|rfl
 ·exact h5 i k hi hin g hkn
 ·exact hz i hi hin
def swI(a b i:Nat):Nat:=if i=a then b else if i=b then a else i
theorem aqf{n:Nat}(hn:n≤4){a r:Nat}(ha:a<n)(hr:r<n)(hne:a≠r)(p q:Int)(hp:p≠0):jj n (fun i j=>if i=a then(if j=a then p else if j=r then-q else 0)else if i=j then 1 else 0)≠0:=by
 rcases(show n=1∨n=2∨n=3∨n=4 by omega)with rfl|rfl|rfl|rfl
 ·omega
 ·rw[ako]
  rcases(show a=0∨a=1 by omega)with rfl|rfl<;>rcases(show r=0∨r=1 by omega)with rfl|rfl<;>first|omega|simp[hp]
 ·rw[akn]
  rcases(show a=0∨a=1∨a=2 by omega)with rfl|rfl|rfl<;>rcases(show r=0∨r=1∨r=2 by omega)with rfl|rfl|rfl<;>first|omega|simp[hp]
 ·rw[aFc]
  rcases(show a=0∨a=1∨a=2∨a=3 by omega)with rfl|rfl|rfl|rfl<;>rcases(show r=0∨r=1∨r=2∨r=3 by omega)with rfl|rfl|rfl|rfl<;>first|omega|simp[hp]
structure elimR(n:Nat)(A C:Nat→Nat→Int)(r j m:Nat):Prop where
 rn:r<n
 rj:r≤j
 jn:j<n
 rm:r<m
 u:∃U:Nat→Nat→Int,jj n U≠0∧∀i k,i<n→k<n→C i k=yd n U A i k
 p:∃p:Nat→Nat,∀t,t<r→p t<j∧p t<n∧C t (p t)≠0∧∀s,t<s→s<n→C s (p t)=0
 z:∀i k,r≤i→i<n→k<j→k<n→C i k=0
 pv:C r j≠0
 zm:∀i,r<i→i<m→i<n→C i j=0
theorem elim.pivot{n:Nat}{A C:Nat→Nat→Int}{r j:Nat}(h:elim n A C r j)(hr:r<n)(hj:j<n)(hp:C r j≠0):elimR n A C r j (r+1):=
 ⟨hr,h.rj,hj,by omega,h.u,h.p,h.z,hp,fun i h1 h2=>by omega⟩
theorem elimR.done{n:Nat}{A C:Nat→Nat→Int}{r j m:Nat}(h:elimR n A C r j m)(hm:n≤m):elim n A C (r+1) (j+1):=by
 obtain⟨h1,h2,h3,h4,h5,⟨p,hp⟩,h7,h8,h9⟩:=h
 refine⟨by omega,by omega,h5,⟨fun t=>if t=r then j else p t,fun t ht=>?_⟩,fun i k hi hin hk hkn=>?_⟩
 ·dsimp only
  by_cases e:t=r
  ·rw[if_pos e,e]
   exact⟨by omega,h3,h8,fun s hs hsn=>h9 s hs (by omega) hsn⟩
  ·rw[if_neg e]
   obtain⟨a,b,c,d⟩:=hp t (by omega)
   exact⟨by omega,b,c,d⟩
 ·rcases(show k<j∨k=j by omega)with g|rfl
  ·exact h7 i k (by omega) hin g hkn
  ·exact h9 i (by omega) (by omega) hin
theorem elimR.step{n:Nat}(hn:n≤4){A C C':Nat→Nat→Int}{r j m:Nat}(h:elimR n A C r j m)(hm:m<n)(h1:∀i k,i<n→k<n→i≠m→C' i k=C i k)(h2:∀k,k<n→C' m k=C m k*C r j-C r k*C m j):elimR n A C' r j (m+1):=by
 obtain⟨g1,g2,g3,g4,⟨U,hU,hC⟩,⟨p,hp⟩,g7,g8,g9⟩:=h
 refine⟨g1,g2,g3,by omega,⟨yd n (fun i k=>if i=m then(if k=m then C r j else if k=r then-C m j else 0)else if i=k then 1 else 0) U,?_,fun i k hi hk=>?_⟩,⟨p,fun t ht=>?_⟩,fun i k hi hin hk hkn=>?_,?_,fun i hi him hin=>?_⟩
 ·rw[Z5 hn]
  intro e
  rcases Int.mul_eq_zero.1 e with e|e
  ·exact aqf hn hm g1 (by omega) (C r j) (C m j) g8 e
  ·exact hU e
 ·rw[JW]
  show C' i k=qD (fun t=>(if i=m then(if t=m then C r j else if t=r then-C m j else 0)else if i=t then 1 else 0)*yd n U A t k) n
  by_cases e:i=m
  ·subst e
   have e2:qD (fun t=>(if i=i then(if t=i then C r j else if t=r then-C i j else 0)else if i=t then 1 else 0)*yd n U A t k) n=qD (fun t=>(if t=i then C r j*C i k else 0)+(if t=r then-C i j*C r k else 0)) n:=qK fun t ht=>by
    rw[if_pos rfl,←hC t k ht hk]
    by_cases a:t=i
    ·rw[if_pos a,if_pos a,if_neg (show ¬t=r by omega),a,Int.add_zero]
    ·rw[if_neg a,if_neg a]
     by_cases b:t=r
     ·rw[if_pos b,if_pos b,b,Int.zero_add]
     ·rw[if_neg b,if_neg b,Int.zero_mul,Int.add_zero]
   rw[e2,Zy,jq (j:=i) hi (fun t _ hne=>if_neg hne),jq (j:=r) g1 (fun t _ hne=>if_neg hne),if_pos rfl,if_pos rfl,h2 k hk,Int.mul_comm (C i k),Int.neg_mul,Int.mul_comm (C r k)]
   omega
  ·rw[jq (j:=i) hi (fun t _ hne=>by rw[if_neg e,if_neg (fun h=>hne h.symm),Int.zero_mul]),if_neg e,if_pos rfl,Int.one_mul,h1 i k hi hk e]
   exact hC i k hi hk
 ·obtain⟨a,b,c,d⟩:=hp t ht
  refine⟨a,b,?_,fun s hts hsn=>?_⟩
  ·rw[h1 t (p t) (by omega) b (by omega)];exact c
  ·by_cases e:s=m
   ·rw[e,h2 _ b,d m (by omega) hm,d r (by omega) g1];simp
   ·rw[h1 s _ hsn b e];exact d s hts hsn
 ·by_cases e:i=m
  ·rw[e,h2 k hkn,g7 m k (by omega) hm hk hkn,g7 r k (by omega) g1 hk hkn];simp
  ·rw[h1 i k hin hkn e];exact g7 i k hi hin hk hkn
 ·rw[h1 r j g1 g3 (by omega)];exact g8
 ·by_cases e:i=m
  ·rw[e,h2 j g3,Int.mul_comm];omega
  ·rw[h1 i j hin g3 e];exact g9 i hi (by omega) hin
end Go.Ab
namespace Go.Ab
/-! ### Sums of powers of a matrix,at one scale-/
def p2(k:Nat):Int:=2^k
theorem yN(a b:Nat):p2 (a+b)=p2 a*p2 b:=Int.pow_add 2 a b
theorem QV(a:Nat):0<p2 a:=Int.pow_pos (by omega)
def beC(n:Nat)(P:Nat→Int)(A:Nat→Nat→Int)(m i j:Nat):Int:=qD (fun t=>P t*aBg n A t i j*p2 (40000-3000*(t+1))) m
end Go.Ab
namespace Go.Ab
open Go Go.Proofs
/-! ### What polynomials of a matrix are worth-/
end Go.Ab
namespace Go.Ab
open Go Go.Proofs
/-! ### What rounded quotients are worth-/
theorem aoV(s:Bool)(a b:Nat)(hb:0<b):(s=false→rq s a b 3*b≤a)∧(s=true→a≤rq s a b 3*b)∧(s=false→a≤rq s a b 2*b)∧(s=true→rq s a b 2*b≤a):=by
 have h1:=Nat.div_add_mod a b
 have h2:=Nat.mod_lt a hb
 have h3:a/b*b=b*(a/b):=Nat.mul_comm _ _
 have h4:(a/b+1)*b=b*(a/b)+b:=by rw[Nat.add_mul,Nat.one_mul,Nat.mul_comm]
 unfold rq rup
 by_cases h:a % b=0
 ·simp only[if_pos h];refine⟨fun _=>?_,fun _=>?_,fun _=>?_,fun _=>?_⟩<;>omega
 ·simp only[if_neg h]
  cases s
  ·refine⟨fun _=>?_,(fun h=>by cases h),fun _=>?_,(fun h=>by cases h)⟩<;>simp<;>omega
  ·refine⟨fun h=>(by cases h),fun _=>?_,fun h=>(by cases h),fun _=>?_⟩<;>simp<;>omega
theorem aYV(s:Bool)(m:Nat):sv s m=sv s 1*(m:Int):=by cases s<;>simp[sv]
theorem aeT{x y:ExV}{low mode:Int}{Kx Ky Kz:Nat}(hy0:y.m≠0)(hx: -(Kx:Int)≤x.e)(hy: -(Ky:Int)≤y.e)(hz: -(Kz:Int)≤low):
  ∃(a b:Nat) (f:Int),0<b∧0<f∧(x.over y low mode).val Kz*y.val Ky*p2 Kx=sv x.s 1*((rq (x.s != y.s) a b mode*b:Nat)*f)∧x.val Kx*p2 (Ky+Kz)=sv x.s 1*(a*f)∧((y.val Ky).natAbs:Int)*p2 ((low+Kz).toNat+Kx)=b*f:=by
 obtain⟨k,hk⟩:∃k,k=x.e-y.e-low:=⟨_,rfl⟩
 have hz':(x.over y low mode).val Kz=sv (x.s != y.s) (rq (x.s != y.s) (ovA x.m k) (ovA y.m (-k)) mode)*p2 (low+Kz).toNat:=by
  rw[hk]
  show dv Kz ((x.s != y.s)&&decide (ovQ (x.s != y.s) x.m x.e y.m y.e low mode≠0)) (ovQ (x.s != y.s) x.m x.e y.m y.e low mode) low=_
  rw[afb];rfl
 have hyv:y.val Ky=sv y.s y.m*p2 (y.e+Ky).toNat:=rfl
 have hxv:x.val Kx=sv x.s x.m*p2 (x.e+Kx).toNat:=rfl
 have hb:0<ovA y.m (-k):=Nat.mul_pos (Nat.pos_of_ne_zero hy0) (Nat.pow_pos (by omega))
 generalize hq:rq (x.s != y.s) (ovA x.m k) (ovA y.m (-k)) mode=q at*
 obtain⟨g,hg1,hg2⟩:∃g:Nat,(low+Kz).toNat+(y.e+Ky).toNat+Kx=(-k).toNat+g∧(x.e+Kx).toNat+(Ky+Kz)=k.toNat+g:=by
  refine⟨min ((low+Kz).toNat+(y.e+Ky).toNat+Kx) ((x.e+Kx).toNat+(Ky+Kz)),?_,?_⟩<;>omega
 have ea:((ovA x.m k:Nat):Int)=x.m*p2 k.toNat:=by unfold ovA p2;rw[Int.natCast_mul,Int.natCast_pow];rfl
 have eb:((ovA y.m (-k):Nat):Int)=y.m*p2 (-k).toNat:=by unfold ovA p2;rw[Int.natCast_mul,Int.natCast_pow];rfl
 refine⟨ovA x.m k,ovA y.m (-k),p2 g,hb,QV g,?_,?_,?_⟩
 ·rw[hq,hz',hyv,Int.natCast_mul,eb]
  have e1:p2 (low+Kz).toNat*p2 (y.e+Ky).toNat*p2 Kx=p2 (-k).toNat*p2 g:=by rw[←yN,←yN,hg1,yN]
  have e2:sv (x.s != y.s) q*sv y.s y.m=sv x.s 1*((q:Int)*y.m):=by
   cases x.s<;>cases y.s<;>(simp[sv];try grind)
  calc sv (x.s != y.s) q*p2 (low+Kz).toNat*(sv y.s y.m*p2 (y.e+Ky).toNat)*p2 Kx=(sv (x.s != y.s) q*sv y.s y.m)*(p2 (low+Kz).toNat*p2 (y.e+Ky).toNat*p2 Kx):=by grind
   _=_:=by rw[e1,e2];grind
 ·rw[hxv,ea,aYV x.s x.m]
  have e1:p2 (x.e+Kx).toNat*p2 (Ky+Kz)=p2 k.toNat*p2 g:=by rw[←yN,hg2,yN]
  calc sv x.s 1*(x.m:Int)*p2 (x.e+Kx).toNat*p2 (Ky+Kz)=sv x.s 1*(x.m:Int)*(p2 (x.e+Kx).toNat*p2 (Ky+Kz)):=by rw[Int.mul_assoc]
   _=_:=by rw[e1];grind
 ·have e0:((y.val Ky).natAbs:Int)=y.m*p2 (y.e+Ky).toNat:=by
   have hp:=QV (y.e+Ky).toNat
   rw[hyv,Int.natAbs_mul,aEC,Int.natCast_mul,show(((p2 (y.e+Ky).toNat).natAbs:Nat):Int)=p2 (y.e+Ky).toNat by omega]
  rw[e0,eb,yN]
  have e1:p2 (y.e+Ky).toNat*(p2 (low+Kz).toNat*p2 Kx)=p2 (-k).toNat*p2 g:=by rw[←yN,←yN,←yN,←hg1];exact congrArg p2 (by omega)
  calc (y.m:Int)*p2 (y.e+Ky).toNat*(p2 (low+Kz).toNat*p2 Kx)=(y.m:Int)*(p2 (y.e+Ky).toNat*(p2 (low+Kz).toNat*p2 Kx)):=by rw[Int.mul_assoc]
   _=_:=by rw[e1];grind
theorem aBn{x y:ExV}{low:Int}{Kx Ky Kz:Nat}(hy0:y.m≠0)(hx: -(Kx:Int)≤x.e)(hy: -(Ky:Int)≤y.e)(hz: -(Kz:Int)≤low):
  (y.s=false→(x.over y low 3).val Kz*y.val Ky*p2 Kx≤x.val Kx*p2 (Ky+Kz)∧x.val Kx*p2 (Ky+Kz)≤(x.over y low 2).val Kz*y.val Ky*p2 Kx)∧
  (y.s=true→x.val Kx*p2 (Ky+Kz)≤(x.over y low 3).val Kz*y.val Ky*p2 Kx∧(x.over y low 2).val Kz*y.val Ky*p2 Kx≤x.val Kx*p2 (Ky+Kz)):=by
 obtain⟨a,b,f,hb,hf,e1,e2,e3⟩:=aeT (mode:=3) hy0 hx hy hz
 obtain⟨a',b',f',hb',hf',e1',e2',e3'⟩:=aeT (mode:=2) hy0 hx hy hz
 obtain⟨h1,h2, -, -⟩:=aoV (x.s != y.s) a b hb
 obtain⟨-, -,h3,h4⟩:=aoV (x.s != y.s) a' b' hb'
 rw[e1,e1']
 have m1:∀p q:Nat,p≤q→(p:Int)*f≤q*f:=fun p q h=>Int.mul_le_mul_of_nonneg_right (by omega) (by omega)
 have m2:∀p q:Nat,p≤q→(p:Int)*f'≤q*f':=fun p q h=>Int.mul_le_mul_of_nonneg_right (by omega) (by omega)
 generalize rq (x.s != y.s) a b 3*b=q at*
 generalize rq (x.s != y.s) a' b' 2*b'=q' at*
 cases hxs:x.s<;>cases hys:y.s<;>rw[hxs,hys]at h1 h2 h3 h4<;>rw[hxs]at e2 e2'<;>simp only[sv]at* <;>refine⟨fun h=>?_,fun h=>?_⟩<;>first|(cases h;done)|skip
 ·have:=m1 _ _ (h1 rfl);have:=m2 _ _ (h3 rfl)
  constructor
  ·rw[e2];simp;omega
  ·rw[e2'];simp;omega
 ·have:=m1 _ _ (h2 rfl);have:=m2 _ _ (h4 rfl)
  constructor
  ·rw[e2];simp;omega
  ·rw[e2'];simp;omega
 ·have:=m1 _ _ (h2 rfl);have:=m2 _ _ (h4 rfl)
  constructor
  ·rw[e2];simp;omega
  ·rw[e2'];simp;omega
 ·have:=m1 _ _ (h1 rfl);have:=m2 _ _ (h3 rfl)
  constructor
  ·rw[e2];simp;omega
  ·rw[e2'];simp;omega
end Go.Ab
namespace Go.Ab
theorem adP{a b c d x y m M:Int}(h1:a≤x)(h2:x≤b)(h3:c≤y)(h4:y≤d)(m1:m≤a*c)(m2:m≤a*d)(m3:m≤b*c)(m4:m≤b*d)(M1:a*c≤M)(M2:a*d≤M)(M3:b*c≤M)(M4:b*d≤M):m≤x*y∧x*y≤M:=by
 have key:∀e:Int,(a*e≤x*e∧x*e≤b*e)∨(b*e≤x*e∧x*e≤a*e):=fun e=>by
  rcases Int.le_total 0 e with h|h
  ·exact .inl ⟨Int.mul_le_mul_of_nonneg_right h1 h,Int.mul_le_mul_of_nonneg_right h2 h⟩
  ·exact .inr ⟨Int.mul_le_mul_of_nonpos_right h2 h,Int.mul_le_mul_of_nonpos_right h1 h⟩
 have kc:=key c
 have kd:=key d
 have ky:(x*c≤x*y∧x*y≤x*d)∨(x*d≤x*y∧x*y≤x*c):=by
  rcases Int.le_total 0 x with h|h
  ·exact .inl ⟨Int.mul_le_mul_of_nonneg_left h3 h,Int.mul_le_mul_of_nonneg_left h4 h⟩
  ·exact .inr ⟨Int.mul_le_mul_of_nonpos_left h h4,Int.mul_le_mul_of_nonpos_left h h3⟩
 omega
end Go.Ab
